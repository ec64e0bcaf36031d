/-
  Layer 5: node.kind, node.List: contracts.
-/
import Derived.Test.YtampdbkafkcfdaaGreatDoorNodB
import Derived.Test.YtampdbkafkcfdaaGreatDoorPrnU

namespace Go.Proofs.YtampdbkafkcfdaaGreatDoor
set_option linter.unusedVariables false
open Go.RowKit

def NodeD.ty : NodeD → TypeId
  | .ver _ => 25
  | .sta _ => 28
  | .msg _ => 46
  | .tab _ => 57
def NodeD.rank : NodeD → Nat
  | .ver _ => 1
  | .sta _ => 2
  | .msg _ => 3
  | .tab _ => 4
def NodeD.kname : NodeD → List UInt8
  | .ver _ => [118, 101, 114, 115, 105, 111, 110]
  | .sta _ => [115, 116, 97, 116, 105, 111, 110, 115]
  | .msg _ => [109, 101, 115, 115, 97, 103, 101]
  | .tab _ => [116, 97, 98, 108, 101]
theorem rdMsg_one {w : World} {x : MsgD} {cs : List Value} (h : rdMsg w x cs) : cs.toArray.size = 8 ∧ cs.toArray.all (·.oneCell') = true := by
  obtain ⟨a, cap, rfl, -⟩ := h
  exact ⟨rfl, by simpa using MsgD.cells_one x a x.sigs.length cap⟩
theorem rdTab_one {w : World} {x : TabD} {cs : List Value} (h : rdTab w x cs) : cs.toArray.size = 6 ∧ cs.toArray.all (·.oneCell') = true := by
  obtain ⟨a, cap, rfl, -⟩ := h
  exact ⟨rfl, by simpa using TabD.cells_one x a x.rows.length cap⟩
theorem nodes_ty : SlTy Tryz.prog 39 69 1 16 := SlTy.mk' .nilIface Tryz.underlying39 (by kernel_rfl) rfl (by decide) (by decide)

theorem run_assert_same {P : Program} {t : TypeId} {fs : Array Field} (hu : P.underlying t = some (.struct fs)) (v : Value) (xT : TypeId) (w : World) : (Instr.typeAssert (.iface t v) xT t true).run P w = .ok (.tuple #[v, .bool true]) w := by
  unfold Instr.typeAssert
  simp only [Sem.run_bind, run_underlying hu, Result.andThen]
  simp
theorem run_assert_other {P : Program} {t s : TypeId} {fs : Array Field} {z : Value} (hu : P.underlying s = some (.struct fs)) (hz : (P.info? s).map (·.zero) = some (some z)) (hne : t ≠ s) (v : Value) (xT : TypeId) (w : World) : (Instr.typeAssert (.iface t v) xT s true).run P w = .ok (.tuple #[z, .bool false]) w := by
  obtain ⟨i, hi, hz⟩ := Option.map_eq_some_iff.1 hz
  unfold Instr.typeAssert
  simp only [Sem.run_bind, run_underlying hu, Result.andThen]
  simp [hne, zeroValue, typeInfo, hi, hz]
theorem asVV (v : Value) (xT : TypeId) (w : World) : (Instr.typeAssert (.iface 25 v) xT 25 true).run Tryz.prog w = .ok (.tuple #[v, .bool true]) w := run_assert_same Tryz.underlying25 v xT w
theorem asVS (v : Value) (xT : TypeId) (w : World) : (Instr.typeAssert (.iface 25 v) xT 28 true).run Tryz.prog w = .ok (.tuple #[.agg zeroStaD, .bool false]) w := run_assert_other Tryz.underlying28 (by kernel_rfl) (by decide) v xT w
theorem asVM (v : Value) (xT : TypeId) (w : World) : (Instr.typeAssert (.iface 25 v) xT 46 true).run Tryz.prog w = .ok (.tuple #[.agg zeroMsgD, .bool false]) w := run_assert_other Tryz.underlying46 (by kernel_rfl) (by decide) v xT w
theorem asVT (v : Value) (xT : TypeId) (w : World) : (Instr.typeAssert (.iface 25 v) xT 57 true).run Tryz.prog w = .ok (.tuple #[.agg zeroTabD, .bool false]) w := run_assert_other Tryz.underlying57 (by kernel_rfl) (by decide) v xT w
theorem asSV (v : Value) (xT : TypeId) (w : World) : (Instr.typeAssert (.iface 28 v) xT 25 true).run Tryz.prog w = .ok (.tuple #[.agg #[.int .i64 0, .int .i64 0, .string ⟨#[]⟩], .bool false]) w := run_assert_other Tryz.underlying25 (by kernel_rfl) (by decide) v xT w
theorem asSS (v : Value) (xT : TypeId) (w : World) : (Instr.typeAssert (.iface 28 v) xT 28 true).run Tryz.prog w = .ok (.tuple #[v, .bool true]) w := run_assert_same Tryz.underlying28 v xT w
theorem asSM (v : Value) (xT : TypeId) (w : World) : (Instr.typeAssert (.iface 28 v) xT 46 true).run Tryz.prog w = .ok (.tuple #[.agg zeroMsgD, .bool false]) w := run_assert_other Tryz.underlying46 (by kernel_rfl) (by decide) v xT w
theorem asST (v : Value) (xT : TypeId) (w : World) : (Instr.typeAssert (.iface 28 v) xT 57 true).run Tryz.prog w = .ok (.tuple #[.agg zeroTabD, .bool false]) w := run_assert_other Tryz.underlying57 (by kernel_rfl) (by decide) v xT w
theorem asMV (v : Value) (xT : TypeId) (w : World) : (Instr.typeAssert (.iface 46 v) xT 25 true).run Tryz.prog w = .ok (.tuple #[.agg #[.int .i64 0, .int .i64 0, .string ⟨#[]⟩], .bool false]) w := run_assert_other Tryz.underlying25 (by kernel_rfl) (by decide) v xT w
theorem asMS (v : Value) (xT : TypeId) (w : World) : (Instr.typeAssert (.iface 46 v) xT 28 true).run Tryz.prog w = .ok (.tuple #[.agg zeroStaD, .bool false]) w := run_assert_other Tryz.underlying28 (by kernel_rfl) (by decide) v xT w
theorem asMM (v : Value) (xT : TypeId) (w : World) : (Instr.typeAssert (.iface 46 v) xT 46 true).run Tryz.prog w = .ok (.tuple #[v, .bool true]) w := run_assert_same Tryz.underlying46 v xT w
theorem asMT (v : Value) (xT : TypeId) (w : World) : (Instr.typeAssert (.iface 46 v) xT 57 true).run Tryz.prog w = .ok (.tuple #[.agg zeroTabD, .bool false]) w := run_assert_other Tryz.underlying57 (by kernel_rfl) (by decide) v xT w
theorem asTV (v : Value) (xT : TypeId) (w : World) : (Instr.typeAssert (.iface 57 v) xT 25 true).run Tryz.prog w = .ok (.tuple #[.agg #[.int .i64 0, .int .i64 0, .string ⟨#[]⟩], .bool false]) w := run_assert_other Tryz.underlying25 (by kernel_rfl) (by decide) v xT w
theorem asTS (v : Value) (xT : TypeId) (w : World) : (Instr.typeAssert (.iface 57 v) xT 28 true).run Tryz.prog w = .ok (.tuple #[.agg zeroStaD, .bool false]) w := run_assert_other Tryz.underlying28 (by kernel_rfl) (by decide) v xT w
theorem asTM (v : Value) (xT : TypeId) (w : World) : (Instr.typeAssert (.iface 57 v) xT 46 true).run Tryz.prog w = .ok (.tuple #[.agg zeroMsgD, .bool false]) w := run_assert_other Tryz.underlying46 (by kernel_rfl) (by decide) v xT w
theorem asTT (v : Value) (xT : TypeId) (w : World) : (Instr.typeAssert (.iface 57 v) xT 57 true).run Tryz.prog w = .ok (.tuple #[v, .bool true]) w := run_assert_same Tryz.underlying57 v xT w

set_option maxRecDepth 100000 in
set_option maxHeartbeats 2000000 in
theorem kind_any (n : NodeD) (C : Array Value) (w : World) :
    Calls Tryz.prog 39 #[.iface n.ty (.agg C)] w fun e w' => e = .returned (.agg #[.int .i64 (n.rank : Nat), .string ⟨n.kname.toArray⟩]) ∧ Below w.heap.size w w' := by
  cases n
  all_goals
    unfold NodeD.ty NodeD.rank NodeD.kname
    simp only
    have hVV := asVV
    have hVS := asVS
    have hVM := asVM
    have hVT := asVT
    have hSV := asSV
    have hSS := asSS
    have hSM := asSM
    have hST := asST
    have hMV := asMV
    have hMS := asMS
    have hMM := asMM
    have hMT := asMT
    have hTV := asTV
    have hTS := asTS
    have hTM := asTM
    have hTT := asTT
    go_enter Tryz.func39, Tryz.ntmps39
    go_wp2_with fail
    refine bodyPost_ret (v := .agg #[_, _]) (by simp [results, Tryz.results39, go_sem]) rfl ⟨rfl, ?_⟩
    exact (Below.refl w.heap.size w).alloc (Nat.le_refl _) _

set_option maxRecDepth 100000 in
set_option maxHeartbeats 16000000 in
theorem nlist_any (x : DbD) (hf : DbFit x) (w : World) (cs : Array Value) (hx : rdDb w x cs.toList) :
    Calls Tryz.prog 8 #[.agg cs] w fun e w' => ∃ v, e = .returned v ∧ OwnRd w' w.heap.size 69 fdNode 1 v (nodL x) ∧ Below w.heap.size w w' := by
  obtain ⟨a, cap, b, cb, c, cc, ecs, hs, hm, ht⟩ := hx
  obtain rfl : cs = x.cells (.slice a x.sta.names.length cap) (.slice b x.msgs.length cb) (.slice c x.tabs.length cc) := Array.toList_inj.1 ecs
  clear ecs
  have CS := Lib.hid (fun W (hb : Below w.heap.size w W) => nstations_any x.sta W #[.int .i64 x.sta.line, .int .i64 x.sta.col, .slice a x.sta.names.length cap] ⟨a, cap, rfl, hs.keep hb (Nat.le_refl _)⟩ (by have := hf.nn; omega))
  have HM := Lib.hid hm
  have HTB := Lib.hid ht
  have HFT := Lib.hid hf
  have hmm := hf.mm
  have htt := hf.tt
  have e0 := DbD.cells_size x (.slice a x.sta.names.length cap) (.slice b x.msgs.length cb) (.slice c x.tabs.length cc)
  have HC := Lib.hid (show x.cells (.slice a x.sta.names.length cap) (.slice b x.msgs.length cb) (.slice c x.tabs.length cc) = #[.bool x.has, .int .i64 x.ver.line, .int .i64 x.ver.col, .string ⟨x.ver.text.toArray⟩, .int .i64 x.sta.line, .int .i64 x.sta.col, .slice a x.sta.names.length cap, .slice b x.msgs.length cb, .slice c x.tabs.length cc] from rfl)
  have HND := Lib.hid (show nodL x = (if x.has then [NodeD.ver x.ver] else []) ++ (NodeD.sta x.sta :: (x.msgs.map .msg ++ x.tabs.map .tab)) from rfl)
  clear hs hm ht hf
  generalize x.cells (.slice a x.sta.names.length cap) (.slice b x.msgs.length cb) (.slice c x.tabs.length cc) = C at *
  generalize x.sta.names.length = n1 at *
  obtain ⟨zb, -, hbz⟩ := box1 w C 32
  have HBZ := Lib.hid hbz
  have ZB := Lib.hid zb
  have HVD : Hid (x.ver.cells = #[.int .i64 x.ver.line, .int .i64 x.ver.col, .string ⟨x.ver.text.toArray⟩]) := Lib.hid rfl
  have hown0 : OwnRd (w.alloc (.cells C 32)) (w.heap.size + 1) 69 fdNode 1 (.slice none 0 0) [] := OwnRd.nil _ _ _ _ _
  have hbel0 : Below (w.heap.size + 1) (w.alloc (.cells C 32)) (w.alloc (.cells C 32)) := Below.refl _ _
  have hum := Tryz.underlying46
  have hut := Tryz.underlying57
  clear zb hbz
  have g0 : ∀ h, C[0]'h = .bool x.has := by rw [HC.out]; exact fun _ => rfl
  have g1 : ∀ h, C[1]'h = .int .i64 x.ver.line := by rw [HC.out]; exact fun _ => rfl
  have g2 : ∀ h, C[2]'h = .int .i64 x.ver.col := by rw [HC.out]; exact fun _ => rfl
  have g3 : ∀ h, C[3]'h = .string ⟨x.ver.text.toArray⟩ := by rw [HC.out]; exact fun _ => rfl
  have g4 : ∀ h, C[4]'h = .int .i64 x.sta.line := by rw [HC.out]; exact fun _ => rfl
  have g5 : ∀ h, C[5]'h = .int .i64 x.sta.col := by rw [HC.out]; exact fun _ => rfl
  have g6 : ∀ h, C[6]'h = .slice a n1 cap := by rw [HC.out]; exact fun _ => rfl
  generalize x.has = hv at *
  obtain ⟨pre, hpre⟩ : ∃ pre : List NodeD, pre = (if hv then [NodeD.ver x.ver] else []) := ⟨_, rfl⟩
  rw [← hpre] at HND
  have hpl : pre.length ≤ 1 := by rw [hpre]; cases hv <;> simp
  cases hv
  obtain rfl : pre = [] := hpre
  have hown1 := hown0
  have hbel1 := hbel0
  generalize ([] : List NodeD) = pre at hown1 HND hpl
  have HBW := Lib.hid (HBZ.out.trans (hbel1.mono (Nat.le_succ _)))
  clear hown0 hbel0
  go_enter Tryz.func8, Tryz.ntmps8
  go_wp2_with fail
  rotate_left
  obtain rfl : pre = [NodeD.ver x.ver] := hpre
  go_enter Tryz.func8, Tryz.ntmps8
  go_wp2_with (at_builtin; go_loud (refine wpList_append_rd last_fdNode nodes_ty [] (NodeD.ver x.ver) hown0 hbel0 (by simp) (by simp) (by show _ = _; rw [HVD.out]) rfl (by simp [Value.oneCell']) (apt_fdNode (by decide) (by decide) (by decide)) ?_ (hx := by rw [World.size_alloc]; rfl)))
  rintro v1 w1 hown1 hbel1 -
  clear hown0 hbel0
  have HBW := Lib.hid (HBZ.out.trans (hbel1.mono (Nat.le_succ _)))
  have B1 := ZB.out.keep hbel1 (by simp)
  rw [HC.out] at B1
  have f4 := B1.cell 4 _ rfl
  have f5 := B1.cell 5 _ rfl
  have f6 := B1.cell 6 _ rfl
  clear B1
  go_wp2_with fail
  generalize [NodeD.ver x.ver] = pre at hown1 HND hpl
  all_goals
    with_reducible refine (CS.out _ HBW.out).mono ?_
    rintro e w2 ⟨C2, rfl, hfd, hb⟩
    have hbel2 := hbel1.trans (hb.mono (by first | exact Nat.le_of_eq (by simp) | (have h := hbel1.size; simpa using h)))
    have hown2 := hown1.keep last_fdNode hb
    clear hown1 hbel1 hb
    go_wp2_with (at_builtin; go_loud (refine wpList_append_rd last_fdNode nodes_ty pre (NodeD.sta x.sta) hown2 hbel2 (by simp) (by omega) ⟨C2, rfl, hfd⟩ rfl (by simp [Value.oneCell']) (apt_fdNode (by decide) (by decide) (by decide)) ?_))
    rintro v3 w3 hown3 hbel3 -
    clear hown2 hbel2
    have B1 := ZB.out.keep hbel3 (by simp)
    rw [HC.out] at B1
    have f7 := B1.cell 7 _ rfl
    clear B1
    have HO := Lib.hid hown3
    have HBL := Lib.hid hbel3
    clear hown3 hbel3 hfd
    go_wp2_with fail
    clear f7
    go_loopw [3, 26] (fun v i wr => ∃ k : Nat, k ≤ x.msgs.length ∧ i = .int .i64 (k : Nat) ∧ OwnRd wr (w.heap.size + 1) 69 fdNode 1 v ((pre ++ [NodeD.sta x.sta]) ++ (x.msgs.take k).map NodeD.msg) ∧ Below (w.heap.size + 1) (w.alloc (.cells C 32)) wr) (fun _ i _ => x.msgs.length - (intOf i).toNat)
    case atStart => exact ⟨0, Nat.zero_le _, rfl, by rw [List.take_zero, List.map_nil, List.append_nil]; exact HO.out, HBL.out⟩
    case round =>
      clear HO HBL
      obtain ⟨k, hk, rfl, hown, hbel⟩ := hrel
      have HBW := Lib.hid (HBZ.out.trans (hbel.mono (Nat.le_succ _)))
      by_cases hlt : (k : Int) < x.msgs.length
      · have hlt' : k < x.msgs.length := by omega
        obtain ⟨bb, oo, rfl, hb, ds, hcl, hrd, hrg⟩ := SlRd.at (HM.out.keep last_rdMsg HBW.out) (by decide) hlt'
        obtain ⟨hd1, hd2⟩ := rdMsg_one hrd
        have hmem := List.getElem_mem hlt'
        have hsz : (Tryz.prog.info? 46).map (·.size) = some ds.length := by rw [hcl]; exact msg_size
        obtain ⟨nb, -, hbn⟩ := box1 wr ds.toArray 46
        have c := nmessage_any x.msgs[k] _ ds.toArray (last_rdMsg _ _ _ _ hrd hbn) (HFT.out.ms _ hmem).1 (HFT.out.ms _ hmem).2
        have hbel2 := hbel.trans (hbn.mono (by have := hbel.size; simpa using this))
        have hown2 := hown.keep last_fdNode hbn
        have hlen : ((pre ++ [NodeD.sta x.sta]) ++ (x.msgs.take k).map NodeD.msg).length ≤ 4000002 := by simp; omega
        have HE := Lib.hid (show (pre ++ [NodeD.sta x.sta]) ++ (x.msgs.take (k + 1)).map NodeD.msg = ((pre ++ [NodeD.sta x.sta]) ++ (x.msgs.take k).map NodeD.msg) ++ [NodeD.msg x.msgs[k]] by rw [List.take_succ_eq_append_getElem hlt', List.map_append, List.map_cons, List.map_nil]; simp only [List.append_assoc])
        clear hown hbel hrd hbn hmem
        generalize hP : (pre ++ [NodeD.sta x.sta]) ++ (x.msgs.take k).map NodeD.msg = PP at *
        generalize x.msgs[k] = y at *
        go_wp2_with (first | (refine wpList_load_mid rfl 46 (.tmp 28) rfl bb (oo + k * 8) rfl ds _ hrg hum rfl hsz ?_) | (refine wpList_newS (Z := zeroMsgD) (cs := ds.toArray) 46 (.tmp 5) (.tmp 29) (by rw [hd1]; exact msg_zero) (by rw [hd1]; rfl) hd2 ?_) | (refine wpList_loadS nb 46 (.tmp 5) hum (by rw [hd1]; exact msg_size) ?_))
        with_reducible refine c.mono ?_
        rintro e w6 ⟨D6, rfl, hfd, hb6⟩
        have hbel6 := hbel2.trans (hb6.mono (by have := hbel2.size; simpa using this))
        have hown6 := hown2.keep last_fdNode hb6
        clear c hown2 hbel2 nb hb6 hrg
        go_wp2_with (at_builtin; go_loud (refine wpList_append_rd last_fdNode nodes_ty PP (NodeD.msg y) hown6 hbel6 (by simp) (by omega) ⟨D6, rfl, hfd⟩ rfl (by simp [Value.oneCell']) (apt_fdNode (by decide) (by decide) (by decide)) ?_))
        rintro v8 w8 hown8 hbel8 -
        clear hown6 hbel6
        go_wp2_with fail
        go_roundw
        case rel => exact ⟨k + 1, by omega, by go_num, by rw [HE.out]; exact hown8, hbel8⟩
        case measure => simp [intOf]; omega
      · obtain rfl : k = x.msgs.length := by omega
        rw [List.take_length] at hown
        have HO := Lib.hid hown
        have HBL := Lib.hid hbel
        have B1 := ZB.out.keep hbel (by simp)
        rw [HC.out] at B1
        have f8 := B1.cell 8 _ rfl
        clear B1 hown hbel hlt
        obtain ⟨kq, hkq⟩ : ∃ y, y = x.msgs.length := ⟨_, rfl⟩
        go_wp2_with fail
        clear f8
        go_loopw [3, 40] (fun v i wr => ∃ k : Nat, k ≤ x.tabs.length ∧ i = .int .i64 (k : Nat) ∧ OwnRd wr (w.heap.size + 1) 69 fdNode 1 v (((pre ++ [NodeD.sta x.sta]) ++ x.msgs.map NodeD.msg) ++ (x.tabs.take k).map NodeD.tab) ∧ Below (w.heap.size + 1) (w.alloc (.cells C 32)) wr) (fun _ i _ => x.tabs.length - (intOf i).toNat)
        case atStart => exact ⟨0, Nat.zero_le _, rfl, by rw [List.take_zero, List.map_nil, List.append_nil]; exact HO.out, HBL.out⟩
        case round =>
          clear HO HBL
          obtain ⟨k, hk, rfl, hown, hbel⟩ := hrel
          have HBW := Lib.hid (HBZ.out.trans (hbel.mono (Nat.le_succ _)))
          by_cases hlt : (k : Int) < x.tabs.length
          · have hlt' : k < x.tabs.length := by omega
            obtain ⟨bb, oo, rfl, hb, ds, hcl, hrd, hrg⟩ := SlRd.at (HTB.out.keep last_rdTab HBW.out) (by decide) hlt'
            obtain ⟨hd1, hd2⟩ := rdTab_one hrd
            have hmem := List.getElem_mem hlt'
            have hsz : (Tryz.prog.info? 57).map (·.size) = some ds.length := by rw [hcl]; exact tab_size
            obtain ⟨nb, -, hbn⟩ := box1 wr ds.toArray 57
            have c := ntable_any x.tabs[k] _ ds.toArray (last_rdTab _ _ _ _ hrd hbn) (by have := HFT.out.ts _ hmem; omega)
            have hbel2 := hbel.trans (hbn.mono (by have := hbel.size; simpa using this))
            have hown2 := hown.keep last_fdNode hbn
            have hlen : (((pre ++ [NodeD.sta x.sta]) ++ x.msgs.map NodeD.msg) ++ (x.tabs.take k).map NodeD.tab).length ≤ 8000002 := by simp; omega
            have HE := Lib.hid (show ((pre ++ [NodeD.sta x.sta]) ++ x.msgs.map NodeD.msg) ++ (x.tabs.take (k + 1)).map NodeD.tab = (((pre ++ [NodeD.sta x.sta]) ++ x.msgs.map NodeD.msg) ++ (x.tabs.take k).map NodeD.tab) ++ [NodeD.tab x.tabs[k]] by rw [List.take_succ_eq_append_getElem hlt', List.map_append, List.map_cons, List.map_nil]; simp only [List.append_assoc])
            clear hown hbel hrd hbn hmem
            generalize hP : ((pre ++ [NodeD.sta x.sta]) ++ x.msgs.map NodeD.msg) ++ (x.tabs.take k).map NodeD.tab = PP at *
            generalize x.tabs[k] = y at *
            go_wp2_with (first | (refine wpList_load_mid rfl 57 (.tmp 42) rfl bb (oo + k * 6) rfl ds _ hrg hut rfl hsz ?_) | (refine wpList_newS (Z := zeroTabD) (cs := ds.toArray) 57 (.tmp 7) (.tmp 43) (by rw [hd1]; exact tab_zero) (by rw [hd1]; rfl) hd2 ?_) | (refine wpList_loadS nb 57 (.tmp 7) hut (by rw [hd1]; exact tab_size) ?_))
            with_reducible refine c.mono ?_
            rintro e w6 ⟨D6, rfl, hfd, hb6⟩
            have hbel6 := hbel2.trans (hb6.mono (by have := hbel2.size; simpa using this))
            have hown6 := hown2.keep last_fdNode hb6
            clear c hown2 hbel2 nb hb6 hrg
            go_wp2_with (at_builtin; go_loud (refine wpList_append_rd last_fdNode nodes_ty PP (NodeD.tab y) hown6 hbel6 (by simp) (by omega) ⟨D6, rfl, hfd⟩ rfl (by simp [Value.oneCell']) (apt_fdNode (by decide) (by decide) (by decide)) ?_))
            rintro v8 w8 hown8 hbel8 -
            clear hown6 hbel6
            go_wp2_with fail
            go_roundw
            case rel => exact ⟨k + 1, by omega, by go_num, by rw [HE.out]; exact hown8, hbel8⟩
            case measure => simp [intOf]; omega
          · obtain rfl : k = x.tabs.length := by omega
            rw [List.take_length] at hown
            have HO := Lib.hid hown
            have HBL := Lib.hid hbel
            obtain ⟨a2, c2, rfl, -⟩ := hown.shape
            clear hown hbel hlt
            go_wp2_with fail
            go_ret
            refine ⟨_, rfl, ?_, HBW.out⟩
            rw [HND.out]
            simpa using HO.out.fromBase (Nat.le_succ _)
end Go.Proofs.YtampdbkafkcfdaaGreatDoor
