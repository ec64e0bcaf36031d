/-
  Layer 5: node.Gather: contract. (Printed by gen_nodd.py.)
-/
import Derived.Test.YtlacjhjckkablaaGreatDoorNodK
import Derived.Test.YtlacjhjckkablaaGreatDoorHeldP
import Derived.Test.YtlacjhjckkablaaGreatDoorCopDX

namespace Go.Proofs.YtlacjhjckkablaaGreatDoor
set_option linter.unusedVariables false
open Go.RowKit

inductive GatR where
  | bad (no at' : Nat)
  | good (d : DbD)
def DbD.zero : DbD := ⟨false, ⟨0, 0, []⟩, ⟨0, 0, []⟩, [], []⟩
def DbD.add (d : DbD) : NodeD → DbD
  | .ver v => { d with has := true, ver := v }
  | .sta s => { d with sta := s }
  | .msg m => { d with msgs := d.msgs ++ [m] }
  | .tab t => { d with tabs := d.tabs ++ [t] }
/-- may a part not stand there (number i, behind one of rank 'last')? -/
def gatB (i last : Nat) (n : NodeD) : Bool := decide (n.rank < last) || ((n.rank == 1 && decide (0 < i)) || ((n.rank == 2 && decide (2 ≤ last)) || (decide (2 < n.rank) && !decide (2 ≤ last))))
def gatL : Nat → Nat → DbD → List NodeD → GatR
  | i, last, d, [] => if last < 2 then .bad 2 i else .good d
  | i, last, d, n :: l => if gatB i last n then .bad 4 i else gatL (i + 1) n.rank (d.add n) l
/-- a part whose lists are bounded -/
def NodFit : NodeD → Prop
  | .ver _ => True
  | .sta s => s.names.length ≤ 4000000
  | .msg m => m.sigs.length ≤ 4000000 ∧ ∀ s ∈ m.sigs, s.rs.length ≤ 4000000
  | .tab t => t.rows.length ≤ 4000000
def gatV (w : World) (R : GatR) (v : Value) : Prop := match R with
  | .bad no i => v = .tuple #[.agg zeroDb, .iface 85 (.agg #[.int .i64 (no : Nat), .int .i64 0, .int .i64 (i : Nat)])]
  | .good d => ∃ C : Array Value, v = .tuple #[.agg C, .nilIface] ∧ fdDb w d C.toList

/-- the database that is being made -/
structure GatW (w0 : World) (base : Nat) (ns : List (List UInt8)) (ms : List MsgD) (ts : List TabD) (w : World) (D : Array Value) (u v z : Value) : Prop where
  bel : Below base w0 w
  res : w.heap[base]? = some (.cells zeroDb 37)
  blk : w.heap[base + 1]? = some (.cells D 37)
  names : Owns w 0 9 1 enTx u ns
  msgs : OwnRd w base 77 fdMsg 8 v ms
  tabs : OwnRd w base 111 fdTab 6 z ts
section
variable {w0 : World} {base : Nat} {ns : List (List UInt8)} {ms : List MsgD} {ts : List TabD} {w w' : World} {D : Array Value} {u v z : Value}
theorem GatW.lt (h : GatW w0 base ns ms ts w D u v z) : base + 1 < w.heap.size := (Array.getElem?_eq_some_iff.1 h.blk).1
theorem GatW.keep (h : GatW w0 base ns ms ts w D u v z) (hb : Below w.heap.size w w') : GatW w0 base ns ms ts w' D u v z :=
  ⟨h.bel.trans (hb.mono (by have := h.lt; omega)), Blk.kindAt h.res hb, Blk.kindAt h.blk hb, h.names.keep hb (Nat.le_refl _), h.msgs.keep last_fdMsg hb, h.tabs.keep last_fdTab hb⟩
theorem GatW.alloc (h : GatW w0 base ns ms ts w D u v z) (o : Obj) : GatW w0 base ns ms ts (w.alloc o) D u v z := h.keep ((Below.refl w.heap.size w).alloc (Nat.le_refl _) o)
theorem GatW.drew (h : GatW w0 base ns ms ts w D u v z) : GatW w0 base ns ms ts w.drew D u v z := h.keep (Below.refl w.heap.size w).drew
theorem GatW.set (h : GatW w0 base ns ms ts w D u v z) (j : Nat) (x : Value) : GatW w0 base ns ms ts (w.setCell ⟨base + 1, j, none⟩ x) (D.setIfInBounds j x) u v z :=
  ⟨below_set h.bel (Nat.le_succ _) j x, setCell_ne h.res (show base ≠ base + 1 by omega) j x, setCell_at h.blk j x, h.names.setAt h.blk (by decide) j x, h.msgs.setAt h.blk (by decide) (apt_fdMsg (by decide) (by decide)) j x, h.tabs.setAt h.blk (by decide) (apt_fdTab (by decide)) j x⟩
theorem GatW.names' (h : GatW w0 base ns ms ts w D u v z) {ns' : List (List UInt8)} {u' : Value} (hu : Owns w 0 9 1 enTx u' ns') : GatW w0 base ns' ms ts w D u' v z := ⟨h.bel, h.res, h.blk, hu, h.msgs, h.tabs⟩
theorem GatW.msgs' (h : GatW w0 base ns ms ts w D u v z) {v' : Value} {m : MsgD} (hv : OwnRd w' base 77 fdMsg 8 v' (ms ++ [m])) (hbel : Below base w0 w') (hg : w.grownBy w' v.ownBlock) : GatW w0 base ns (ms ++ [m]) ts w' D u v' z := by
  obtain ⟨rows, hr, -⟩ := h.msgs
  exact ⟨hbel, heap_grown2 h.res hr (by decide) hg, heap_grown2 h.blk hr (by decide) hg, h.names.grown2 hr (by decide) hg, hv, h.tabs.grown2 hr (by decide) last_fdTab (apt_fdTab (by decide)) hg⟩
theorem GatW.tabs' (h : GatW w0 base ns ms ts w D u v z) {z' : Value} {m : TabD} (hv : OwnRd w' base 111 fdTab 6 z' (ts ++ [m])) (hbel : Below base w0 w') (hg : w.grownBy w' z.ownBlock) : GatW w0 base ns ms (ts ++ [m]) w' D u v z' := by
  obtain ⟨rows, hr, -⟩ := h.tabs
  exact ⟨hbel, heap_grown2 h.res hr (by decide) hg, heap_grown2 h.blk hr (by decide) hg, h.names.grown2 hr (by decide) hg, h.msgs.grown2 hr (by decide) last_fdMsg (apt_fdMsg (by decide) (by decide)) hg, hv⟩
end
theorem zeroDb_one : zeroDb.all (·.oneCell') = true := by simp [Value.oneCell']
theorem fieldK (a b : Value) (w : World) : (Instr.field 144 (.agg #[a, b]) 0).run Tryz.prog w = .ok a w := by
  unfold Instr.field
  simp [Sem.run_bind, run_underlying Tryz.underlying144, asAgg, part, isAgg, run_underlying Tryz.underlying3, Result.andThen]

set_option maxRecDepth 100000 in
set_option maxHeartbeats 16000000 in
theorem gather_any (l : List NodeD) (hl : ∀ n ∈ l, NodFit n) (n : Nat) (hn : n = l.length) (hr : l.length ≤ 100000000) (a : Option Addr) (cap : Nat) (w : World) (hs : SlRd w rdNode 1 a cap l) :
    Calls Tryz.prog 13 #[.slice a n cap] w fun e w' => ∃ v, e = .returned v ∧ gatV w' (gatL 0 0 DbD.zero l) v ∧ Below w.heap.size w w' := by
  subst hn
  obtain ⟨R, hR⟩ : ∃ R, R = gatL 0 0 DbD.zero l := ⟨_, rfl⟩
  rw [← hR]
  have HR := Lib.hid hR
  have hu := Tryz.underlying37
  have hfk := fieldK
  clear hR

  have hVV := asVV
  have hVS := asVS
  have hVM := asVM
  have hVT := asVT
  have hSV := asSV
  have hSS := asSS
  have hSM := asSM
  have hST := asST
  have hMV := asMV
  have hMS := asMS
  have hMM := asMM
  have hMT := asMT
  have hTV := asTV
  have hTS := asTS
  have hTM := asTM
  have hTT := asTT
  go_enter Tryz.func13, Tryz.ntmps13
  go_wp2_with fail
  go_loopw [3, 5, 16] (fun er lv i wr => ∃ (k last : Nat) (d : DbD) (u v z : Value), k ≤ l.length ∧ er = .nilIface ∧ i = .int .i64 (k : Nat) ∧ lv = .int .i64 (last : Nat) ∧ last ≤ 4 ∧ (0 < k → 1 ≤ last) ∧ (k = 0 → last = 0) ∧ R = gatL k last d (l.drop k) ∧ d.msgs.length ≤ k ∧ d.tabs.length ≤ k ∧ GatW w w.heap.size d.sta.names d.msgs d.tabs wr (d.cells u v z) u v z) (fun _ _ i _ => l.length - (intOf i).toNat)
  case atStart =>
    refine ⟨0, 0, DbD.zero, .slice none 0 0, .slice none 0 0, .slice none 0 0, Nat.zero_le _, rfl, rfl, rfl, by decide, fun h => by omega, fun _ => rfl, by rw [HR.out]; rfl, by simp [DbD.zero], by simp [DbD.zero], ?_⟩
    obtain ⟨h1, h2, h3, h4⟩ := box2 w zeroDb zeroDb 37 37
    refine ⟨h4, ?_, ?_, Owns.nil _ _ _ _ _, OwnRd.nil _ _ _ _ _, OwnRd.nil _ _ _ _ _⟩
    · show ((w.alloc (.cells zeroDb 37)).alloc (.cells zeroDb 37)).heap[w.heap.size]? = _
      rw [Below.heap_alloc _ _ _ (by simp)]
      exact heap_alloc_new w _
    · have h5 := heap_alloc_new (w.alloc (.cells zeroDb 37)) (.cells zeroDb 37)
      rw [World.size_alloc] at h5
      exact h5
  case round =>
    obtain ⟨k, last, d, u, v, z, hk, rfl, rfl, rfl, hla, hkl, hk0, hRk, hm1, ht1, hg⟩ := hrel
    have hsz1 := hg.lt
    by_cases hlt : (k : Int) < l.length
    · have hlt' : k < l.length := by omega
      obtain ⟨bb, oo, rfl, hb, cs, hcl, hrd, hrg⟩ := SlRd.at (hs.keep last_rdNode hg.bel) (by decide) hlt'
      have hfit := hl _ (List.getElem_mem hlt')
      rw [List.drop_eq_getElem_cons hlt'] at hRk
      unfold gatL at hRk
      generalize l[k] = y at *
      have HRK := Lib.hid hRk
      have HG := Lib.hid hg
      clear hRk hg
      cases y with
      | ver y =>
        obtain rfl : cs = [.iface 30 (.agg #[.int .i64 y.line, .int .i64 y.col, .string ⟨y.text.toArray⟩])] := hrd
        have hc : wr.cell? ⟨bb, oo + k, none⟩ = some (.iface 30 (.agg #[.int .i64 y.line, .int .i64 y.col, .string ⟨y.text.toArray⟩])) := by simpa using hrg 0 _ rfl
        have ck := fun W => kind_any (.ver y) #[.int .i64 y.line, .int .i64 y.col, .string ⟨y.text.toArray⟩] W
        simp only [NodeD.ty, NodeD.rank, NodeD.kname] at ck
        clear hrg hcl
        go_wp2_with fail
        with_reducible refine (ck _).mono ?_
        rintro e w1 ⟨rfl, hb1⟩
        have hg1 := HG.out.keep hb1
        have B2 : Blk w1 w.heap.size zeroDb := ⟨_, hg1.res⟩
        have B4 : Blk w1 (w.heap.size + 1) (d.cells u v z) := ⟨_, hg1.blk⟩
        have HG1 := Lib.hid hg1
        have HB1 := Lib.hid hb1
        clear hb1 hg1 ck hc HG
        by_cases h0 : (0 : Int) < k
        · clear B4
          by_cases h1 : (1 : Int) < last
          all_goals
            have HV := Lib.hid (show R = .bad 4 k by rw [HRK.out]; unfold gatB; rw [decide_eq_true (show 0 < k by omega)]; simp [NodeD.rank])
            go_wp2_with (refine wpList_storeS (cs := zeroDb) B2 37 (.tmp 2) (.tmp 56) db_size rfl zeroDb_one ?_)
            have hrun := run_loadS (B2.row zeroDb) 37 _ hu rfl db_size
            refine bodyPost_ret (v := .tuple #[.agg zeroDb, .iface 85 (.agg #[.int .i64 4, .int .i64 0, .int .i64 (k : Nat)])]) (by simp [results, Tryz.results13, asAddr, hrun]) rfl ⟨_, rfl, by rw [HV.out]; rfl, below_row HG1.out.bel (Nat.le_refl _) zeroDb⟩
        · obtain rfl : k = 0 := by omega
          obtain rfl : last = 0 := hk0 rfl
          have HV := Lib.hid (show R = gatL 1 1 (d.add (.ver y)) (l.drop 1) by rw [HRK.out]; rfl)
          have c0 := B4.cell 0 _ rfl
          have r0 := B4.free 0
          have c1 := B4.cell 1 _ rfl
          have r1 := B4.free 1
          have c2 := B4.cell 2 _ rfl
          have r2 := B4.free 2
          have c3 := B4.cell 3 _ rfl
          have r3 := B4.free 3
          have hlt4 := B4.lt
          clear B4 B2 hs
          go_wp2_with fail
          go_region_with fail
          all_goals
            go_wp2_with fail
            go_roundw
            case rel =>
              refine ⟨1, 1, d.add (.ver y), u, v, z, by omega, rfl, rfl, rfl, by omega, fun _ => by omega, fun h => by omega, HV.out, by simp only [DbD.add]; omega, by simp only [DbD.add]; omega, ?_⟩
              first
                | exact ((((HG1.out.set 0 (.bool true)).set 1 (.int .i64 y.line)).set 2 (.int .i64 y.col)).set 3 (.string ⟨y.text.toArray⟩)).alloc _ |>.drew
                | exact ((((HG1.out.set 1 (.int .i64 y.line)).set 2 (.int .i64 y.col)).set 3 (.string ⟨y.text.toArray⟩)).set 0 (.bool true)).alloc _ |>.drew
            case measure => simp [intOf]; omega
      | sta y =>
        obtain ⟨C, rfl, hrd⟩ := hrd
        obtain ⟨a', c', eC, hsx⟩ := hrd
        have eC2 : C = #[.int .i64 y.line, .int .i64 y.col, .slice a' y.names.length c'] := Array.toList_inj.1 eC
        clear eC
        subst eC2
        have hfit : y.names.length ≤ 4000000 := hfit
        have hc : wr.cell? ⟨bb, oo + k, none⟩ = some (.iface 33 (.agg #[.int .i64 y.line, .int .i64 y.col, .slice a' y.names.length c'])) := by simpa using hrg 0 _ rfl
        have ck := fun W => kind_any (.sta y) #[.int .i64 y.line, .int .i64 y.col, .slice a' y.names.length c'] W
        simp only [NodeD.ty, NodeD.rank, NodeD.kname] at ck
        clear hrg hcl
        go_wp2_with fail
        with_reducible refine (ck _).mono ?_
        rintro e w1 ⟨rfl, hb1⟩
        have hg1 := HG.out.keep hb1
        have B2 : Blk w1 w.heap.size zeroDb := ⟨_, hg1.res⟩
        have B4 : Blk w1 (w.heap.size + 1) (d.cells u v z) := ⟨_, hg1.blk⟩
        have HG1 := Lib.hid hg1
        have HB1 := Lib.hid hb1
        clear hb1 hg1 ck hc HG
        have cS := Lib.hid (fun W (h : Below wr.heap.size wr W) => nstations_any y W #[.int .i64 y.line, .int .i64 y.col, .slice a' y.names.length c'] ⟨a', c', rfl, hsx.keep h (Nat.le_refl _)⟩ (by omega))
        clear hsx
        by_cases h0 : (2 : Int) ≤ last
        · clear B4 cS
          by_cases h1 : (2 : Int) < last
          all_goals
            have HV := Lib.hid (show R = .bad 4 k by rw [HRK.out]; unfold gatB; rw [decide_eq_true (show 2 ≤ last by omega)]; simp [NodeD.rank])
            go_wp2_with (refine wpList_storeS (cs := zeroDb) B2 37 (.tmp 2) (.tmp 56) db_size rfl zeroDb_one ?_)
            have hrun := run_loadS (B2.row zeroDb) 37 _ hu rfl db_size
            refine bodyPost_ret (v := .tuple #[.agg zeroDb, .iface 85 (.agg #[.int .i64 4, .int .i64 0, .int .i64 (k : Nat)])]) (by simp [results, Tryz.results13, asAddr, hrun]) rfl ⟨_, rfl, by rw [HV.out]; rfl, below_row HG1.out.bel (Nat.le_refl _) zeroDb⟩
        · have h1 : ¬ (2 : Int) < last := by omega
          have HV := Lib.hid (show R = gatL (k + 1) 2 (d.add (.sta y)) (l.drop (k + 1)) by rw [HRK.out]; unfold gatB; rw [decide_eq_false (show ¬ 2 ≤ last by omega), decide_eq_false (show ¬ (NodeD.sta y).rank < last by simp only [NodeD.rank]; omega)]; rfl)
          have c4 := B4.cell 4 _ rfl
          have r4 := B4.free 4
          have c5 := B4.cell 5 _ rfl
          have r5 := B4.free 5
          have c6 := B4.cell 6 _ rfl
          have r6 := B4.free 6
          have hlt4 := B4.lt
          have hbw := bstep HB1.out ((Below.refl w1.heap.size w1).alloc (Nat.le_refl _) (.cells #[.int .i64 y.line, .int .i64 y.col, .slice a' y.names.length c'] 33)) (Nat.le_refl _)
          have hg2 := HG1.out.alloc (.cells #[.int .i64 y.line, .int .i64 y.col, .slice a' y.names.length c'] 33)
          have HG2 := Lib.hid hg2
          clear B4 B2 hs hg2
          generalize y.names.length = n1 at *
          go_wp2_with fail
          with_reducible refine (cS.out _ hbw).mono ?_
          rintro e w3 ⟨C3, rfl, hfd, hb3⟩
          obtain ⟨u', eC3, ho⟩ := hfd
          obtain ⟨a3, c3, rfl, -⟩ := ho.shape
          obtain rfl := Array.toList_inj.1 eC3
          have HG3 := Lib.hid (HG2.out.keep hb3)
          have B5 : Blk w3 (w.heap.size + 1) (d.cells u v z) := ⟨_, HG3.out.blk⟩
          clear c4 c5 c6 r4 r5 r6 hlt4 hbw cS
          have c4 := B5.cell 4 _ rfl
          have c5 := B5.cell 5 _ rfl
          have c6 := B5.cell 6 _ rfl
          have r4 := B5.free 4
          have r5 := B5.free 5
          have r6 := B5.free 6
          have HO := Lib.hid ho
          clear B5 hb3 ho eC3
          unfold StaD.cells
          go_wp2_with fail
          go_roundw
          case rel =>
            refine ⟨k + 1, 2, d.add (.sta y), .slice a3 y.names.length c3, v, z, by omega, rfl, by go_num, rfl, by omega, fun _ => by omega, fun h => by omega, HV.out, by simp only [DbD.add]; omega, by simp only [DbD.add]; omega, ?_⟩
            exact ((((HG3.out.names' HO.out).set 4 (.int .i64 y.line)).set 5 (.int .i64 y.col)).set 6 (.slice a3 y.names.length c3))
          case measure => simp [intOf]; omega
      | msg y =>
        obtain ⟨C, rfl, hrd⟩ := hrd
        obtain ⟨hC8, hC1⟩ := rdMsg_one hrd
        have hC8 : C.size = 8 := hC8
        have hC1 : C.all (·.oneCell') = true := hC1
        have hfit := hfit
        unfold NodFit at hfit
        have hc : wr.cell? ⟨bb, oo + k, none⟩ = some (.iface 77 (.agg C)) := by simpa using hrg 0 _ rfl
        have ck := fun W => kind_any (.msg y) C W
        simp only [NodeD.ty, NodeD.rank, NodeD.kname] at ck
        clear hrg hcl
        go_wp2_with fail
        with_reducible refine (ck _).mono ?_
        rintro e w1 ⟨rfl, hb1⟩
        have hg1 := HG.out.keep hb1
        have B2 : Blk w1 w.heap.size zeroDb := ⟨_, hg1.res⟩
        have HG1 := Lib.hid hg1
        have cM := Lib.hid (fun W (h : Below wr.heap.size wr W) => nmessage_any y W C (last_rdMsg _ _ _ _ hrd h) hfit.1 hfit.2)
        have HB1 := Lib.hid hb1
        clear hb1 hg1 ck hc HG hrd
        by_cases h0 : (3 : Int) < last
        · clear cM
          have HV := Lib.hid (show R = .bad 4 k by rw [HRK.out]; unfold gatB; rw [decide_eq_true (show (NodeD.msg y).rank < last by simp only [NodeD.rank]; omega)]; rfl)
          go_wp2_with (refine wpList_storeS (cs := zeroDb) B2 37 (.tmp 2) (.tmp 56) db_size rfl zeroDb_one ?_)
          have hrun := run_loadS (B2.row zeroDb) 37 _ hu rfl db_size
          refine bodyPost_ret (v := .tuple #[.agg zeroDb, .iface 85 (.agg #[.int .i64 4, .int .i64 0, .int .i64 (k : Nat)])]) (by simp [results, Tryz.results13, asAddr, hrun]) rfl ⟨_, rfl, by rw [HV.out]; rfl, below_row HG1.out.bel (Nat.le_refl _) zeroDb⟩
        by_cases h2 : ¬ (2 : Int) ≤ last
        · clear cM
          have hb2 : decide ((2 : Int) ≤ (last : Nat)) = false := decide_eq_false h2
          have HV := Lib.hid (show R = .bad 4 k by rw [HRK.out]; unfold gatB; rw [decide_eq_false (show ¬ 2 ≤ last by omega)]; simp [NodeD.rank])
          go_wp2_with (refine wpList_storeS (cs := zeroDb) B2 37 (.tmp 2) (.tmp 56) db_size rfl zeroDb_one ?_)
          have hrun := run_loadS (B2.row zeroDb) 37 _ hu rfl db_size
          refine bodyPost_ret (v := .tuple #[.agg zeroDb, .iface 85 (.agg #[.int .i64 4, .int .i64 0, .int .i64 (k : Nat)])]) (by simp [results, Tryz.results13, asAddr, hrun]) rfl ⟨_, rfl, by rw [HV.out]; rfl, below_row HG1.out.bel (Nat.le_refl _) zeroDb⟩
        have HV := Lib.hid (show R = gatL (k + 1) 3 (d.add (.msg y)) (l.drop (k + 1)) by rw [HRK.out]; unfold gatB; rw [decide_eq_true (show 2 ≤ last by omega), decide_eq_false (show ¬ (NodeD.msg y).rank < last by simp only [NodeD.rank]; omega)]; rfl)
        have hb2 : decide ((2 : Int) ≤ (last : Nat)) = true := decide_eq_true (by omega)
        obtain ⟨nb, -, hbn⟩ := box1 w1 C 77
        have HG2 := Lib.hid (HG1.out.alloc (.cells C 77))
        have hbw := bstep HB1.out hbn (Nat.le_refl _)
        clear hbn HG1 HB1 HRK
        have hum := Tryz.underlying77
        have nbz : Blk (w1.alloc (.cells zeroMsgD 77)) w1.heap.size zeroMsgD := Blk.new _ _ _
        go_wp2_with (refine wpList_storeS (cs := C) nbz 77 (.tmp 12) (.tmp 76) (by rw [hC8]; exact msg_size) (by rw [hC8]; rfl) hC1 ?_)
        clear nbz
        rw [World.setRow_alloc_new]
        have hcv := (show Blk (w1.alloc (.cells C 77)) (w.heap.size + 1) (d.cells u v z) from ⟨_, HG2.out.blk⟩).cell 7 v rfl
        generalize w1.alloc (.cells C 77) = W2 at *
        refine wp_region_heldL 7 (fun (w' : World) => w'.cell? ⟨w.heap.size + 1, 7, none⟩ = some v) (by kernel_rfl) hcv (fun hHeld => ?_)
        refine heldL_take 0 (v := ?_) rfl (by kernel_rfl) (by kernel_rfl) (by kernel_rfl) (by kernel_rfl) (by kernel_rfl) (by kernel_rfl) (fun _ _ _ h => h) (by assumption) ?_ ?_
        rotate_left
        · first | (refine Or.inr ⟨?_, ?_⟩ <;> rfl) | (refine Or.inl ⟨by rfl, ?_⟩; intro w hSw; (try dsimp only at hSw); first | (go_simp; done) | (go_simp; with_reducible rfl))
        try simp only [Act.put, List.setIfInBounds_toArray, List.set_cons_zero, List.set_cons_succ]
        refine heldL_take 1 (v := ?_) rfl (by kernel_rfl) (by kernel_rfl) (by kernel_rfl) (by kernel_rfl) (by kernel_rfl) (by kernel_rfl) (fun _ _ _ h => h) (by assumption) ?_ ?_
        rotate_left
        · first | (refine Or.inr ⟨?_, ?_⟩ <;> rfl) | (refine Or.inl ⟨by rfl, ?_⟩; intro w hSw; (try dsimp only at hSw); first | (go_simp; done) | (go_simp; with_reducible rfl))
        try simp only [Act.put, List.setIfInBounds_toArray, List.set_cons_zero, List.set_cons_succ]
        refine heldL_call 2 rfl (by kernel_rfl) (fun K hK => ?_)
        refine step_loadS (k := w1.heap.size) (cs := C) nb 77 (.tmp 12) hum (by rw [hC8]; exact msg_size) ?_
        clear hHeld
        refine hK.out _ _ ?_ (fun hHeld => ?_)
        · exact hcv
        clear hK K
        try simp only [Act.put, List.setIfInBounds_toArray, List.set_cons_zero, List.set_cons_succ]
        refine heldL_call 3 rfl (by kernel_rfl) (fun K hK => ?_)
        go_simp
        with_reducible refine (cM.out W2.drew hbw.drew).mono ?_
        rintro e w3 ⟨D6, rfl, hfd, hb3⟩
        clear hHeld
        refine hK.out _ _ ?_ (fun hHeld => ?_)
        · exact cell_keep' (w := W2.drew) hcv hb3
        clear hK K
        try simp only [Act.put, List.setIfInBounds_toArray, List.set_cons_zero, List.set_cons_succ]
        refine heldL_call 4 rfl (by kernel_rfl) (fun K hK => ?_)
        have hD6 : D6.size = 8 := by have := fdMsg_size hfd; rwa [Array.length_toList] at this
        have hD1 := fdMsg_one hfd
        have hfold := fold_set zeroMsgD D6 8 hD6 rfl
        have HG3 := Lib.hid (HG2.out.drew.keep hb3)
        have hcv3 := cell_keep' (w := W2.drew) hcv hb3
        have hcv4 := cell_keep' hcv3 ((Below.refl w3.heap.size w3).alloc (Nat.le_refl _) (.cells D6 77))
        go_simp
        clear hHeld
        refine hK.out _ _ ?_ (fun hHeld => ?_)
        · exact hcv4
        clear hK K
        try simp only [Act.put, List.setIfInBounds_toArray, List.set_cons_zero, List.set_cons_succ]
        refine heldL_call 5 rfl (by kernel_rfl) (fun K hK => ?_)
        have HG4 := Lib.hid (HG3.out.alloc (.cells D6 77))
        refine step_append_rd last_fdMsg msgs_ty d.msgs y (g := w3.heap.size) (cells := D6) HG4.out.msgs HG4.out.bel (Nat.le_refl _) (by omega) (heap_alloc_new w3 _) (last_fdMsg _ _ _ _ hfd ((Below.refl w3.heap.size w3).alloc (Nat.le_refl _) _)) hD6 hD1 (apt_fdMsg (by decide) (by decide)) ?_
        rintro v5 w5 hown5 hb5 hgr5 -
        obtain ⟨a5, n5, c5, hv5⟩ : ∃ a n c, v5 = .slice a n c := by obtain ⟨a5, c5, e, -⟩ := hown5.shape; exact ⟨_, _, _, e⟩
        subst hv5
        have HG5 := Lib.hid (HG4.out.msgs' hown5 hb5 hgr5)
        have B5 : Blk w5 (w.heap.size + 1) (d.cells u v z) := ⟨_, HG5.out.blk⟩
        have hcv5 := B5.cell 7 v rfl
        have hfr5 := B5.free 7
        clear hown5 hb5 hgr5 B5 hfold
        clear hHeld
        refine hK.out _ _ ?_ (fun hHeld => ?_)
        · exact hcv5
        clear hK K
        try simp only [Act.put, List.setIfInBounds_toArray, List.set_cons_zero, List.set_cons_succ]
        refine heldL_take 6 (v := ?_) rfl (by kernel_rfl) (by kernel_rfl) (by kernel_rfl) (by kernel_rfl) (by kernel_rfl) (by kernel_rfl) (fun _ _ _ h => h) (by assumption) ?_ ?_
        rotate_left
        · first | (refine Or.inr ⟨?_, ?_⟩ <;> rfl) | (refine Or.inl ⟨by rfl, ?_⟩; intro w hSw; (try dsimp only at hSw); first | (go_simp; done) | (go_simp; with_reducible rfl))
        try simp only [Act.put, List.setIfInBounds_toArray, List.set_cons_zero, List.set_cons_succ]
        refine heldL_last 7 rfl (by kernel_rfl) (by kernel_rfl) (fun K hK => ?_)
        go_simp
        refine hK.out _ _ ?_
        clear hK K
        try simp only [Act.put, List.setIfInBounds_toArray, List.set_cons_zero, List.set_cons_succ]
        refine wpAnyL_done (by kernel_rfl) ?_ _
        have HG6 := Lib.hid (HG5.out.set 7 (.slice a5 n5 c5))
        clear hcv hcv3 hcv4 hcv5 hfr5 nb hbw hfd hb3
        go_wp2_with fail
        go_roundw
        case rel =>
          refine ⟨k + 1, 3, d.add (.msg y), u, (.slice a5 n5 c5), z, by omega, rfl, by go_num, rfl, by omega, fun _ => by omega, fun h => by omega, HV.out, by first | (simp only [DbD.add]; omega) | (simp only [DbD.add, List.length_append, List.length_cons, List.length_nil]; omega), by first | (simp only [DbD.add]; omega) | (simp only [DbD.add, List.length_append, List.length_cons, List.length_nil]; omega), ?_⟩
          exact HG6.out
        case measure => simp [intOf]; omega
      | tab y =>
        obtain ⟨C, rfl, hrd⟩ := hrd
        obtain ⟨hC8, hC1⟩ := rdTab_one hrd
        have hC8 : C.size = 6 := hC8
        have hC1 : C.all (·.oneCell') = true := hC1
        have hfit := hfit
        unfold NodFit at hfit
        have hc : wr.cell? ⟨bb, oo + k, none⟩ = some (.iface 111 (.agg C)) := by simpa using hrg 0 _ rfl
        have ck := fun W => kind_any (.tab y) C W
        simp only [NodeD.ty, NodeD.rank, NodeD.kname] at ck
        clear hrg hcl
        go_wp2_with fail
        with_reducible refine (ck _).mono ?_
        rintro e w1 ⟨rfl, hb1⟩
        have hg1 := HG.out.keep hb1
        have B2 : Blk w1 w.heap.size zeroDb := ⟨_, hg1.res⟩
        have HG1 := Lib.hid hg1
        have cM := Lib.hid (fun W (h : Below wr.heap.size wr W) => ntable_any y W C (last_rdTab _ _ _ _ hrd h) (by omega))
        have HB1 := Lib.hid hb1
        clear hb1 hg1 ck hc HG hrd
        by_cases h2 : ¬ (2 : Int) ≤ last
        · clear cM
          have hb2 : decide ((2 : Int) ≤ (last : Nat)) = false := decide_eq_false h2
          have h0 : ¬ (4 : Int) < last := by omega
          have HV := Lib.hid (show R = .bad 4 k by rw [HRK.out]; unfold gatB; rw [decide_eq_false (show ¬ 2 ≤ last by omega)]; simp [NodeD.rank])
          go_wp2_with (refine wpList_storeS (cs := zeroDb) B2 37 (.tmp 2) (.tmp 56) db_size rfl zeroDb_one ?_)
          have hrun := run_loadS (B2.row zeroDb) 37 _ hu rfl db_size
          refine bodyPost_ret (v := .tuple #[.agg zeroDb, .iface 85 (.agg #[.int .i64 4, .int .i64 0, .int .i64 (k : Nat)])]) (by simp [results, Tryz.results13, asAddr, hrun]) rfl ⟨_, rfl, by rw [HV.out]; rfl, below_row HG1.out.bel (Nat.le_refl _) zeroDb⟩
        have h0 : ¬ (4 : Int) < last := by omega
        have HV := Lib.hid (show R = gatL (k + 1) 4 (d.add (.tab y)) (l.drop (k + 1)) by rw [HRK.out]; unfold gatB; rw [decide_eq_true (show 2 ≤ last by omega), decide_eq_false (show ¬ (NodeD.tab y).rank < last by simp only [NodeD.rank]; omega)]; rfl)
        have hb2 : decide ((2 : Int) ≤ (last : Nat)) = true := decide_eq_true (by omega)
        obtain ⟨nb, -, hbn⟩ := box1 w1 C 111
        have HG2 := Lib.hid (HG1.out.alloc (.cells C 111))
        have hbw := bstep HB1.out hbn (Nat.le_refl _)
        clear hbn HG1 HB1 HRK
        have hum := Tryz.underlying111
        have nbz : Blk (w1.alloc (.cells zeroTabD 111)) w1.heap.size zeroTabD := Blk.new _ _ _
        go_wp2_with (refine wpList_storeS (cs := C) nbz 111 (.tmp 13) (.tmp 86) (by rw [hC8]; exact tab_size) (by rw [hC8]; rfl) hC1 ?_)
        clear nbz
        rw [World.setRow_alloc_new]
        have hcv := (show Blk (w1.alloc (.cells C 111)) (w.heap.size + 1) (d.cells u v z) from ⟨_, HG2.out.blk⟩).cell 8 z rfl
        generalize w1.alloc (.cells C 111) = W2 at *
        refine wp_region_heldL 7 (fun (w' : World) => w'.cell? ⟨w.heap.size + 1, 8, none⟩ = some z) (by kernel_rfl) hcv (fun hHeld => ?_)
        refine heldL_take 0 (v := ?_) rfl (by kernel_rfl) (by kernel_rfl) (by kernel_rfl) (by kernel_rfl) (by kernel_rfl) (by kernel_rfl) (fun _ _ _ h => h) (by assumption) ?_ ?_
        rotate_left
        · first | (refine Or.inr ⟨?_, ?_⟩ <;> rfl) | (refine Or.inl ⟨by rfl, ?_⟩; intro w hSw; (try dsimp only at hSw); first | (go_simp; done) | (go_simp; with_reducible rfl))
        try simp only [Act.put, List.setIfInBounds_toArray, List.set_cons_zero, List.set_cons_succ]
        refine heldL_take 1 (v := ?_) rfl (by kernel_rfl) (by kernel_rfl) (by kernel_rfl) (by kernel_rfl) (by kernel_rfl) (by kernel_rfl) (fun _ _ _ h => h) (by assumption) ?_ ?_
        rotate_left
        · first | (refine Or.inr ⟨?_, ?_⟩ <;> rfl) | (refine Or.inl ⟨by rfl, ?_⟩; intro w hSw; (try dsimp only at hSw); first | (go_simp; done) | (go_simp; with_reducible rfl))
        try simp only [Act.put, List.setIfInBounds_toArray, List.set_cons_zero, List.set_cons_succ]
        refine heldL_call 2 rfl (by kernel_rfl) (fun K hK => ?_)
        refine step_loadS (k := w1.heap.size) (cs := C) nb 111 (.tmp 13) hum (by rw [hC8]; exact tab_size) ?_
        clear hHeld
        refine hK.out _ _ ?_ (fun hHeld => ?_)
        · exact hcv
        clear hK K
        try simp only [Act.put, List.setIfInBounds_toArray, List.set_cons_zero, List.set_cons_succ]
        refine heldL_call 3 rfl (by kernel_rfl) (fun K hK => ?_)
        go_simp
        with_reducible refine (cM.out W2.drew hbw.drew).mono ?_
        rintro e w3 ⟨D6, rfl, hfd, hb3⟩
        clear hHeld
        refine hK.out _ _ ?_ (fun hHeld => ?_)
        · exact cell_keep' (w := W2.drew) hcv hb3
        clear hK K
        try simp only [Act.put, List.setIfInBounds_toArray, List.set_cons_zero, List.set_cons_succ]
        refine heldL_call 4 rfl (by kernel_rfl) (fun K hK => ?_)
        have hD6 : D6.size = 6 := by have := fdTab_size hfd; rwa [Array.length_toList] at this
        have hD1 := fdTab_one hfd
        have hfold := fold_set zeroTabD D6 6 hD6 rfl
        have HG3 := Lib.hid (HG2.out.drew.keep hb3)
        have hcv3 := cell_keep' (w := W2.drew) hcv hb3
        have hcv4 := cell_keep' hcv3 ((Below.refl w3.heap.size w3).alloc (Nat.le_refl _) (.cells D6 111))
        go_simp
        clear hHeld
        refine hK.out _ _ ?_ (fun hHeld => ?_)
        · exact hcv4
        clear hK K
        try simp only [Act.put, List.setIfInBounds_toArray, List.set_cons_zero, List.set_cons_succ]
        refine heldL_call 5 rfl (by kernel_rfl) (fun K hK => ?_)
        have HG4 := Lib.hid (HG3.out.alloc (.cells D6 111))
        refine step_append_rd last_fdTab tabs_ty d.tabs y (g := w3.heap.size) (cells := D6) HG4.out.tabs HG4.out.bel (Nat.le_refl _) (by omega) (heap_alloc_new w3 _) (last_fdTab _ _ _ _ hfd ((Below.refl w3.heap.size w3).alloc (Nat.le_refl _) _)) hD6 hD1 (apt_fdTab (by decide)) ?_
        rintro v5 w5 hown5 hb5 hgr5 -
        obtain ⟨a5, n5, c5, hv5⟩ : ∃ a n c, v5 = .slice a n c := by obtain ⟨a5, c5, e, -⟩ := hown5.shape; exact ⟨_, _, _, e⟩
        subst hv5
        have HG5 := Lib.hid (HG4.out.tabs' hown5 hb5 hgr5)
        have B5 : Blk w5 (w.heap.size + 1) (d.cells u v z) := ⟨_, HG5.out.blk⟩
        have hcv5 := B5.cell 8 z rfl
        have hfr5 := B5.free 8
        clear hown5 hb5 hgr5 B5 hfold
        clear hHeld
        refine hK.out _ _ ?_ (fun hHeld => ?_)
        · exact hcv5
        clear hK K
        try simp only [Act.put, List.setIfInBounds_toArray, List.set_cons_zero, List.set_cons_succ]
        refine heldL_take 6 (v := ?_) rfl (by kernel_rfl) (by kernel_rfl) (by kernel_rfl) (by kernel_rfl) (by kernel_rfl) (by kernel_rfl) (fun _ _ _ h => h) (by assumption) ?_ ?_
        rotate_left
        · first | (refine Or.inr ⟨?_, ?_⟩ <;> rfl) | (refine Or.inl ⟨by rfl, ?_⟩; intro w hSw; (try dsimp only at hSw); first | (go_simp; done) | (go_simp; with_reducible rfl))
        try simp only [Act.put, List.setIfInBounds_toArray, List.set_cons_zero, List.set_cons_succ]
        refine heldL_last 7 rfl (by kernel_rfl) (by kernel_rfl) (fun K hK => ?_)
        go_simp
        refine hK.out _ _ ?_
        clear hK K
        try simp only [Act.put, List.setIfInBounds_toArray, List.set_cons_zero, List.set_cons_succ]
        refine wpAnyL_done (by kernel_rfl) ?_ _
        have HG6 := Lib.hid (HG5.out.set 8 (.slice a5 n5 c5))
        clear hcv hcv3 hcv4 hcv5 hfr5 nb hbw hfd hb3
        go_wp2_with fail
        go_roundw
        case rel =>
          refine ⟨k + 1, 4, d.add (.tab y), u, v, (.slice a5 n5 c5), by omega, rfl, by go_num, rfl, by omega, fun _ => by omega, fun h => by omega, HV.out, by first | (simp only [DbD.add]; omega) | (simp only [DbD.add, List.length_append, List.length_cons, List.length_nil]; omega), by first | (simp only [DbD.add]; omega) | (simp only [DbD.add, List.length_append, List.length_cons, List.length_nil]; omega), ?_⟩
          exact HG6.out
        case measure => simp [intOf]; omega
    · obtain rfl : k = l.length := by omega
      rw [List.drop_length] at hRk
      unfold gatL at hRk
      have B2 : Blk wr w.heap.size zeroDb := ⟨_, hg.res⟩
      have K2 := Lib.hid hg.res
      have HG := Lib.hid hg
      by_cases h2 : (last : Int) < 2
      · have HV := Lib.hid (show R = .bad 2 l.length by rw [hRk, if_pos (show last < 2 by omega)])
        clear hRk hg
        go_wp2_with (refine wpList_storeS (cs := zeroDb) B2 37 (.tmp 2) (.tmp 97) db_size rfl zeroDb_one ?_)
        have hrun := run_loadS (B2.row zeroDb) 37 _ hu rfl db_size
        refine bodyPost_ret (v := .tuple #[.agg zeroDb, .iface 85 (.agg #[.int .i64 2, .int .i64 0, .int .i64 (l.length : Nat)])]) (by simp [results, Tryz.results13, asAddr, hrun]) rfl ⟨_, rfl, by rw [HV.out]; rfl, below_row HG.out.bel (Nat.le_refl _) zeroDb⟩
      · have HV := Lib.hid (show R = .good d by rw [hRk, if_neg (show ¬ last < 2 by omega)])
        have B4 : Blk wr (w.heap.size + 1) (d.cells u v z) := ⟨_, hg.blk⟩
        obtain ⟨a1, c1, e1, -⟩ := hg.names.shape
        obtain ⟨a2, c2, e2, -⟩ := hg.msgs.shape
        obtain ⟨a3, c3, e3, -⟩ := hg.tabs.shape
        have hsz : (d.cells u v z).size = 9 := rfl
        have hone : (d.cells u v z).all (·.oneCell') = true := by rw [e1, e2, e3]; exact DbD.cells_one _ _ _ _ _ _ _ _ _ _
        have HD : Hid (∃ D, D = d.cells u v z) := Lib.hid ⟨_, rfl⟩
        obtain ⟨D, hD⟩ := HD.out
        rw [← hD] at B4 hsz hone
        have HDE := Lib.hid hD
        clear hRk hg HD hD e1 e2 e3
        go_wp2_with (first | (refine wpList_loadS B4 37 (.tmp 4) hu (by rw [hsz]; exact db_size) ?_) | (refine wpList_storeS (cs := D) B2 37 (.tmp 2) (.tmp 102) (by rw [hsz]; exact db_size) (by rw [hsz]; rfl) hone ?_))
        have hrun := run_loadS (B2.row D) 37 _ hu rfl (by rw [hsz]; exact db_size)
        refine bodyPost_ret (v := .tuple #[.agg D, .nilIface]) (by simp [results, Tryz.results13, asAddr, hrun]) rfl ⟨_, rfl, ?_, below_row HG.out.bel (Nat.le_refl _) D⟩
        rw [HV.out]
        refine ⟨D, rfl, u, v, z, by rw [HDE.out], ?_, ?_, ?_⟩
        · exact Owns.apt HG.out.names (by decide) K2.out (fun b _ hne => heap_setRow_other _ _ _ _ hne)
        · exact (OwnRd.apt HG.out.msgs (by decide) (apt_fdMsg (by decide) (by decide)) K2.out (by simp [World.setRow]) (fun b _ hne => heap_setRow_other _ _ _ _ hne)).fromBase (Nat.zero_le _)
        · exact (OwnRd.apt HG.out.tabs (by decide) (apt_fdTab (by decide)) K2.out (by simp [World.setRow]) (fun b _ hne => heap_setRow_other _ _ _ _ hne)).fromBase (Nat.zero_le _)
end Go.Proofs.YtlacjhjckkablaaGreatDoor
