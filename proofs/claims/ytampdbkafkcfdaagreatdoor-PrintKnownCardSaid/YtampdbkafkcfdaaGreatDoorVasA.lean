/-
  The law's 'vast': contract.
-/
import Derived.Test.YtampdbkafkcfdaaGreatDoorSigRd
import Derived.Test.YtampdbkafkcfdaaGreatDoorPrnX
import Derived.Test.YtampdbkafkcfdaaGreatDoorNodC

namespace Go.Proofs.YtampdbkafkcfdaaGreatDoor
set_option linter.unusedVariables false
open Go.RowKit

/-! ### as read: the numbers fit their kinds -/
structure SxWf (x : SigX) : Prop where
  d : SigWf x.d
  w : ∀ r ∈ x.rs, r.length ≤ 9223372036854775807
structure MsgWf (m : MsgD) : Prop where
  id : m.id < 4294967296
  sz : In64 m.size
  nm : m.name.length ≤ 9223372036854775807
  sn : m.sender.length ≤ 9223372036854775807
  sg : ∀ s ∈ m.sigs, SxWf s
structure TabWf (t : TabD) : Prop where
  id : t.id < 4294967296
  sg : t.sig.length ≤ 9223372036854775807
  rw : ∀ r ∈ t.rows, In64 r.1 ∧ r.2.length ≤ 9223372036854775807
structure DbWf (d : DbD) : Prop where
  tx : d.ver.text.length ≤ 9223372036854775807
  nm : ∀ r ∈ d.sta.names, r.length ≤ 9223372036854775807
  ms : ∀ m ∈ d.msgs, MsgWf m
  tb : ∀ t ∈ d.tabs, TabWf t

/-! ### of at most 2^24 bytes -/
structure SxFine (x : SigX) : Prop where
  nm : x.d.name.length ≤ 16777216
  un : x.d.unit.length ≤ 16777216
  rn : x.rs.length ≤ 262144
  rt : ∀ r ∈ x.rs, r.length ≤ 16777216
structure MsgFine (m : MsgD) : Prop where
  nm : m.name.length ≤ 16777216
  sn : m.sender.length ≤ 16777216
  sn' : m.sigs.length ≤ 262144
  sg : ∀ s ∈ m.sigs, SxFine s
structure TabFine (t : TabD) : Prop where
  sg : t.sig.length ≤ 16777216
  rn : t.rows.length ≤ 262144
  rw : ∀ r ∈ t.rows, r.2.length ≤ 16777216
structure DbFine (d : DbD) : Prop where
  tx : d.ver.text.length ≤ 16777216
  nn : d.sta.names.length ≤ 262144
  nm : ∀ r ∈ d.sta.names, r.length ≤ 16777216
  mn : d.msgs.length ≤ 262144
  ms : ∀ m ∈ d.msgs, MsgFine m
  tn : d.tabs.length ≤ 262144
  tb : ∀ t ∈ d.tabs, TabFine t
theorem DbFine.fit {d : DbD} (h : DbFine d) : DbFit d :=
  ⟨by have := h.nn; omega, by have := h.mn; omega, fun m hm => ⟨by have := (h.ms m hm).sn'; omega, fun s hs => by have := ((h.ms m hm).sg s hs).rn; omega⟩, by have := h.tn; omega, fun t ht => by have := (h.tb t ht).rn; omega⟩
theorem DbFine.ok {d : DbD} (h : DbFine d) (hw : DbWf d) : DbOK d :=
  ⟨by have := h.tx; omega, by have := h.nn; omega, fun r hr => by have := h.nm r hr; omega,
    fun m hm => ⟨(hw.ms m hm).id, (hw.ms m hm).sz, by have := (h.ms m hm).nm; omega, by have := (h.ms m hm).sn; omega, fun s hs =>
      ⟨⟨((hw.ms m hm).sg s hs).d.br, ((hw.ms m hm).sg s hs).d.st, ((hw.ms m hm).sg s hs).d.sz, ((hw.ms m hm).sg s hs).d.s1, ((hw.ms m hm).sg s hs).d.s2, ((hw.ms m hm).sg s hs).d.o1, ((hw.ms m hm).sg s hs).d.o2, ((hw.ms m hm).sg s hs).d.m1, ((hw.ms m hm).sg s hs).d.m2, ((hw.ms m hm).sg s hs).d.x1, ((hw.ms m hm).sg s hs).d.x2, by have := ((h.ms m hm).sg s hs).nm; omega, by have := ((h.ms m hm).sg s hs).un; omega, ((hw.ms m hm).sg s hs).d.ro⟩, by have := ((h.ms m hm).sg s hs).rn; omega, ((hw.ms m hm).sg s hs).w⟩⟩,
    fun t ht => ⟨(hw.tb t ht).id, by have := (h.tb t ht).sg; omega, fun r hr => ⟨((hw.tb t ht).rw r hr).1, by have := (h.tb t ht).rw r hr; omega⟩⟩⟩

theorem tk_pos {l n : Int} (h : 0 < tkI l n) : n ≤ l ∧ tkI l n = l - n - 64 := by
  unfold tkI at *
  split at h <;> omega
theorem tk_bd {l n : Int} (hl : -64 ≤ l ∧ l ≤ 16777216) (hn : 0 ≤ n) : -64 ≤ tkI l n ∧ tkI l n ≤ 16777216 := by
  unfold tkI
  split <;> omega
theorem take_all {α : Type} {P : α → Prop} {l : List α} {k : Nat} (h : ∀ r ∈ l.take k, P r) (hk : k < l.length) (hp : P l[k]) : ∀ r ∈ l.take (k + 1), P r := by
  rw [List.take_succ_eq_append_getElem hk]
  intro r hr
  rcases List.mem_append.1 hr with hr | hr
  · exact h r hr
  · rw [List.mem_singleton.1 hr]; exact hp
theorem SlRd.max {α : Type} {rd : World → α → List Value → Prop} {size : Nat} {a : Option Addr} {cap : Nat} {xs : List α} {w : World} (h : SlRd w rd size a cap xs) : xs.length ≤ 9223372036854775807 := by
  obtain ⟨rows, h1, h2⟩ := h
  have := h1.len.2.1
  have := h2.len
  omega
/-- the walk's state: the box, what is left -/
structure VasW (w : World) (C : Array Value) (L : Int) (wr : World) : Prop where
  bel : Below w.heap.size w wr
  box : Blk wr w.heap.size C
  left : Blk wr (w.heap.size + 1) #[.int .i64 L]
  bd : -64 ≤ L ∧ L ≤ 16777216
theorem VasW.take {w : World} {C : Array Value} {L : Int} {wr : World} (h : VasW w C L wr) {n : Int} (hn : 0 ≤ n) : VasW w C (tkI L n) (wr.setCell ⟨w.heap.size + 1, 0, none⟩ (.int .i64 (tkI L n))) :=
  ⟨below_set h.bel (Nat.le_succ _) 0 _, h.box.other (a := ⟨w.heap.size + 1, 0, none⟩) (show w.heap.size + 1 ≠ w.heap.size by omega) _, h.left.put 0 (.int .i64 (tkI L n)), tk_bd h.bd hn⟩
theorem VasW.alloc {w : World} {C : Array Value} {L : Int} {wr : World} (h : VasW w C L wr) (o : Obj) : VasW w C L (wr.alloc o) :=
  ⟨h.bel.alloc h.bel.size o, h.box.alloc o, h.left.alloc o, h.bd⟩
theorem VasW.lt {w : World} {C : Array Value} {L : Int} {wr : World} (h : VasW w C L wr) : w.heap.size + 1 < wr.heap.size := h.left.lt

def VasR (x : DbD) (w : World) (e : Ending) (w' : World) : Prop := Below w.heap.size w w' ∧ (e = .returned (.bool true) ∨ e = .returned (.bool false) ∧ DbFine x)
set_option maxRecDepth 100000 in
set_option maxHeartbeats 16000000 in
theorem vast_any (x : DbD) (hw : DbWf x) (w : World) (cs : Array Value) (hrd : rdDb w x cs.toList) :
    Calls Tryz.prog 6 #[.agg cs] w fun e w' => VasR x w e w' := by
  obtain ⟨a, cap, b, cb, c, cc, ecs, hs, hm, ht⟩ := hrd
  obtain rfl : cs = x.cells (.slice a x.sta.names.length cap) (.slice b x.msgs.length cb) (.slice c x.tabs.length cc) := Array.toList_inj.1 ecs
  clear ecs
  have HS := Lib.hid hs
  have HM := Lib.hid hm
  have HTB := Lib.hid ht
  have HW := Lib.hid hw
  have hvt := hw.tx
  have hls := hs.len
  have hml := hm.max
  have htl := ht.max
  have e0 := DbD.cells_size x (.slice a x.sta.names.length cap) (.slice b x.msgs.length cb) (.slice c x.tabs.length cc)
  have HC := Lib.hid (show x.cells (.slice a x.sta.names.length cap) (.slice b x.msgs.length cb) (.slice c x.tabs.length cc) = #[.bool x.has, .int .i64 x.ver.line, .int .i64 x.ver.col, .string ⟨x.ver.text.toArray⟩, .int .i64 x.sta.line, .int .i64 x.sta.col, .slice a x.sta.names.length cap, .slice b x.msgs.length cb, .slice c x.tabs.length cc] from rfl)
  clear hs hm ht hw
  generalize x.cells (.slice a x.sta.names.length cap) (.slice b x.msgs.length cb) (.slice c x.tabs.length cc) = C at *
  have g3 : ∀ h, C[3]'h = .string ⟨x.ver.text.toArray⟩ := by rw [HC.out]; exact fun _ => rfl
  obtain ⟨zb, zl, -, hbz⟩ := box2 w C #[.int .i64 16777216] 32 3
  have hv0 : VasW w C 16777216 ((w.alloc (.cells C 32)).alloc (.cells #[.int .i64 16777216] 3)) := ⟨hbz, zb, zl, by decide⟩
  have HV1 := Lib.hid (hv0.take (n := (x.ver.text.length : Nat)) (by omega))
  have cT := fun (L n : Int) (hn : 0 ≤ n ∧ n ≤ 9223372036854775807) (W : World) (h : VasW w C L W) => take_any (w.heap.size + 1) L n ⟨by have := h.bd; omega, by have := h.bd; omega⟩ hn W h.left
  have ct0 := cT 16777216 (x.ver.text.length : Nat) (by omega) _ hv0
  have HP1 := Lib.hid (show 0 < tkI 16777216 (x.ver.text.length : Nat) → x.ver.text.length ≤ 16777216 from fun h => by have := (tk_pos h).1; omega)
  clear hbz zb zl hv0
  generalize tkI 16777216 (x.ver.text.length : Nat) = L1 at *
  go_enter Tryz.func6, Tryz.ntmps6
  go_wp2_with fail
  with_reducible refine ct0.mono ?_
  rintro e w1 ⟨rfl, hw1⟩
  have HV2 : Hid (VasW w C L1 w1) := Lib.hid (by rw [hw1]; exact HV1.out)
  clear hw1 HV1 ct0 g3
  go_wp2_with fail
  go_loopw [4] (fun i wr => ∃ (k : Nat) (L : Int), k ≤ x.sta.names.length ∧ i = .int .i64 (k : Nat) ∧ VasW w C L wr ∧ (0 < L → x.ver.text.length ≤ 16777216 ∧ L + 64 * k ≤ 16777216 ∧ ∀ r ∈ x.sta.names.take k, r.length ≤ 16777216)) (fun i _ => x.sta.names.length - (intOf i).toNat)
  case atStart => exact ⟨0, L1, Nat.zero_le _, rfl, HV2.out, fun h => ⟨HP1.out h, by have := HV2.out.bd; omega, by simp⟩⟩
  case round =>
    clear HV2 HP1
    obtain ⟨k, L, hk, rfl, hv, hp⟩ := hrel
    have B1 := hv.box
    rw [HC.out] at B1
    have f6 := B1.cell 6 _ rfl
    have f7 := B1.cell 7 _ rfl
    have f0 := hv.left.cell 0 _ rfl
    clear B1
    by_cases hlt : (k : Int) < x.sta.names.length
    by_cases hL : (0 : Int) < L
    · have hlt' : k < x.sta.names.length := by omega
      obtain ⟨bb, oo, rfl, hb, hc0⟩ := SlX.at (HS.out.keep hv.bel (Nat.le_refl _)) hlt'
      have hok := HW.out.nm _ (List.getElem_mem hlt')
      have HTK := Lib.hid (fun h1 h2 => take_all (P := fun r : List UInt8 => r.length ≤ 16777216) h1 hlt' h2)
      generalize x.sta.names[k] = y at *
      have ct := cT L (y.length : Nat) (by omega) wr hv
      have HV := Lib.hid (hv.take (n := (y.length : Nat)) (by omega))
      have HPN := Lib.hid (show 0 < tkI L (y.length : Nat) → x.ver.text.length ≤ 16777216 ∧ tkI L (y.length : Nat) + 64 * ((k + 1 : Nat) : Int) ≤ 16777216 ∧ ∀ r ∈ x.sta.names.take (k + 1), r.length ≤ 16777216 from fun h => by
        obtain ⟨h1, h2⟩ := tk_pos h
        obtain ⟨h3, h4, h5⟩ := hp hL
        exact ⟨h3, by omega, HTK.out h5 (by have := hv.bd; omega)⟩)
      clear hv hp HTK f7
      generalize tkI L (y.length : Nat) = L2 at *
      go_wp2_with fail
      with_reducible refine ct.mono ?_
      rintro e w3 ⟨rfl, hw3⟩
      rw [← hw3] at HV
      clear hw3 ct
      go_wp2_with fail
      go_roundw
      case rel => exact ⟨k + 1, L2, by omega, by go_num, HV.out, HPN.out⟩
      case measure => simp [intOf]; omega
    all_goals
      have HR : Hid (VasW w C L wr ∧ (0 < L → x.ver.text.length ≤ 16777216 ∧ x.sta.names.length ≤ 262144 ∧ (∀ r ∈ x.sta.names, r.length ≤ 16777216))) := Lib.hid (by
        refine ⟨hv, fun h => ?_⟩
        first
          | exact absurd h hL
          | (obtain ⟨h1, h2, h3⟩ := hp h
             have e : k = x.sta.names.length := by omega
             rw [e, List.take_length] at h3
             exact ⟨h1, by omega, h3⟩))
      clear hv hp
      go_wp2_with fail
      clear f6 f7 f0
      go_loopw [5] (fun i wr => ∃ (k : Nat) (L : Int), k ≤ x.msgs.length ∧ i = .int .i64 (k : Nat) ∧ VasW w C L wr ∧ (0 < L → (x.ver.text.length ≤ 16777216 ∧ x.sta.names.length ≤ 262144 ∧ (∀ r ∈ x.sta.names, r.length ≤ 16777216)) ∧ L + 64 * k ≤ 16777216 ∧ ∀ r ∈ x.msgs.take k, MsgFine r)) (fun i _ => x.msgs.length - (intOf i).toNat)
      case atStart => exact ⟨0, L, Nat.zero_le _, rfl, HR.out.1, fun h => ⟨HR.out.2 h, by have := HR.out.1.bd; omega, by simp⟩⟩
      case round =>
        clear HR
        obtain ⟨k, L, hk, rfl, hv, hp⟩ := hrel
        have B1 := hv.box
        rw [HC.out] at B1
        have f7 := B1.cell 7 _ rfl
        have f8 := B1.cell 8 _ rfl
        have f0 := hv.left.cell 0 _ rfl
        clear B1
        by_cases hlt : (k : Int) < x.msgs.length
        by_cases hL : (0 : Int) < L
        · have hlt' : k < x.msgs.length := by omega
          obtain ⟨bb, oo, rfl, hb, ds, hcl, hrd, hrg0⟩ := SlRd.at HM.out (by decide) hlt'
          have hrg : wr.rangeAt bb (oo + k * 8) ds := fun j u hu => cell_keep' (hrg0 j u hu) hv.bel
          clear hrg0
          obtain ⟨hd1, hd2⟩ := rdMsg_one hrd
          have hok := HW.out.ms _ (List.getElem_mem hlt')
          have HTK := Lib.hid (fun h1 h2 => take_all (P := MsgFine) h1 hlt' h2)
          generalize x.msgs[k] = y at *
          obtain ⟨ay, cy, eds, hsy⟩ := hrd
          have HSY := Lib.hid hsy
          have hsl := hsy.max
          have hnm := hok.nm
          have hsn := hok.sn
          have HOK := Lib.hid hok
          obtain ⟨DS, hDS⟩ : ∃ DS, DS = y.cells (.slice ay y.sigs.length cy) := ⟨_, rfl⟩
          rw [← hDS] at eds
          subst eds
          rw [Array.toArray_toList] at hd1 hd2
          have g4 : ∀ h, DS[4]'h = .string ⟨y.name.toArray⟩ := by rw [hDS]; exact fun _ => rfl
          have HDS := Lib.hid hDS
          clear hDS
          obtain ⟨nb, -, hbn⟩ := box1 wr DS 46
          have hszm : (Tryz.prog.info? 46).map (·.size) = some DS.toList.length := by rw [Array.length_toList, hd1]; exact msg_size
          have HV1 := Lib.hid (hv.alloc (.cells DS 46))
          have ct := cT L (y.name.length : Nat) (by omega) _ HV1.out
          have HV2 := Lib.hid (HV1.out.take (n := (y.name.length : Nat)) (by omega))
          have hM : w.heap.size + 1 < wr.heap.size := hv.lt
          have NB2 := Lib.hid (nb.other (a := ⟨w.heap.size + 1, 0, none⟩) (show w.heap.size + 1 ≠ wr.heap.size by omega) (.int .i64 (tkI L (y.name.length : Nat))))
          have HPA := Lib.hid (show 0 < tkI L (y.name.length : Nat) → (x.ver.text.length ≤ 16777216 ∧ x.sta.names.length ≤ 262144 ∧ (∀ r ∈ x.sta.names, r.length ≤ 16777216)) ∧ tkI L (y.name.length : Nat) + 64 * ((k + 1 : Nat) : Int) ≤ 16777216 ∧ (∀ r ∈ x.msgs.take k, MsgFine r) ∧ y.name.length ≤ 16777216 from fun h => by
            obtain ⟨h1, h2⟩ := tk_pos h
            obtain ⟨h3, h4, h5⟩ := hp hL
            exact ⟨h3, by omega, h5, by have := hv.bd; omega⟩)
          clear hv hp hsy hok f8 hbn nb
          generalize tkI L (y.name.length : Nat) = L2 at *
          go_wp2_with (first | (refine wpList_load_mid rfl 46 (.tmp 52) rfl bb (oo + k * 8) rfl DS.toList _ hrg Tryz.underlying46 rfl hszm ?_; rw [Array.toArray_toList]) | (refine wpList_newS (Z := zeroMsgD) (cs := DS) 46 (.tmp 6) (.tmp 53) (by rw [hd1]; exact msg_zero) (by rw [hd1]; rfl) hd2 ?_))
          with_reducible refine ct.mono ?_
          rintro e w3 ⟨rfl, hw3⟩
          rw [← hw3] at HV2 NB2
          clear hw3 ct HV1 hszm hrg f7 f0 g4
          have NB3 := NB2.out
          rw [HDS.out] at NB3
          have m6 := NB3.cell 6 (.string ⟨y.sender.toArray⟩) rfl
          have ct := cT L2 (y.sender.length : Nat) (by omega) w3 HV2.out
          have HV3 := Lib.hid (HV2.out.take (n := (y.sender.length : Nat)) (by omega))
          have NB4 := Lib.hid (NB2.out.other (a := ⟨w.heap.size + 1, 0, none⟩) (show w.heap.size + 1 ≠ wr.heap.size by omega) (.int .i64 (tkI L2 (y.sender.length : Nat))))
          have HPB := Lib.hid (show 0 < tkI L2 (y.sender.length : Nat) → ((x.ver.text.length ≤ 16777216 ∧ x.sta.names.length ≤ 262144 ∧ (∀ r ∈ x.sta.names, r.length ≤ 16777216)) ∧ (∀ r ∈ x.msgs.take k, MsgFine r) ∧ y.name.length ≤ 16777216 ∧ y.sender.length ≤ 16777216) ∧ tkI L2 (y.sender.length : Nat) + 64 * ((k + 1 : Nat) : Int) ≤ 16777216 from fun h => by
            obtain ⟨h1, h2⟩ := tk_pos h
            obtain ⟨h3, h4, h5, h6⟩ := HPA.out (by omega)
            exact ⟨⟨h3, h5, h6, by have := HV2.out.bd; omega⟩, by omega⟩)
          clear HPA NB3 HV2
          generalize tkI L2 (y.sender.length : Nat) = L3 at *
          go_wp2_with fail
          with_reducible refine ct.mono ?_
          rintro e w4 ⟨rfl, hw4⟩
          rw [← hw4] at HV3 NB4
          clear hw4 ct m6 NB2
          go_wp2_with fail
          have HBE := Lib.hid HSY.out
          generalize wr.heap.size = M at *
          go_loopw [7] (fun i wi => ∃ (j : Nat) (L : Int), j ≤ y.sigs.length ∧ i = .int .i64 (j : Nat) ∧ VasW w C L wi ∧ Blk wi M DS ∧ (0 < L → ((x.ver.text.length ≤ 16777216 ∧ x.sta.names.length ≤ 262144 ∧ (∀ r ∈ x.sta.names, r.length ≤ 16777216)) ∧ (∀ r ∈ x.msgs.take k, MsgFine r) ∧ y.name.length ≤ 16777216 ∧ y.sender.length ≤ 16777216) ∧ L + 64 * ((k + 1 : Nat) : Int) ≤ 16777216 ∧ L + 64 * (j : Int) ≤ 16777216 ∧ ∀ r ∈ y.sigs.take j, SxFine r)) (fun i _ => y.sigs.length - (intOf i).toNat)
          case atStart => exact ⟨0, L3, Nat.zero_le _, rfl, HV3.out, NB4.out, fun h => ⟨(HPB.out h).1, (HPB.out h).2, by have := HV3.out.bd; omega, by simp⟩⟩
          case round =>
            clear HV3 NB4 HPB
            obtain ⟨j, L, hj, rfl, hv, nb, hp⟩ := hrel
            have NB := nb
            rw [HDS.out] at NB
            have f7 := NB.cell 7 (.slice ay y.sigs.length cy) rfl
            have f0 := hv.left.cell 0 _ rfl
            clear NB
            by_cases hlj : (j : Int) < y.sigs.length
            by_cases hLj : (0 : Int) < L
            · have hlj' : j < y.sigs.length := by omega
              obtain ⟨b2, o2, rfl, hb2, ds2, hcl2, hrd2, hrg0⟩ := SlRd.at HSY.out (by decide) hlj'
              have hrg2 : wr.rangeAt b2 (o2 + j * 19) ds2 := fun j u hu => cell_keep' (hrg0 j u hu) hv.bel
              have hok2 := HOK.out.sg _ (List.getElem_mem hlj')
              have HTK2 := Lib.hid (fun h1 h2 => take_all (P := SxFine) h1 hlj' h2)
              clear hrg0
              generalize y.sigs[j] = s at *
              obtain ⟨a3, c3, eds2, hs3⟩ := hrd2
              have HS3 := Lib.hid hs3
              have hrl := hs3.len
              have hnm2 := hok2.d.nm
              have hun2 := hok2.d.un
              have HW3 := Lib.hid hok2.w
              obtain ⟨DG, hDG⟩ : ∃ DG, DG = s.d.cells (.slice a3 s.rs.length c3) := ⟨_, rfl⟩
              have hG1 : DG.size = 19 := by rw [hDG]; rfl
              have hG2 : DG.all (·.oneCell') = true := by rw [hDG]; exact SigD.cells_one _ _ _ _
              rw [← hDG] at eds2
              subst eds2
              have g2 : ∀ h, DG[2]'h = .string ⟨s.d.name.toArray⟩ := by rw [hDG]; exact fun _ => rfl
              have HDG := Lib.hid hDG
              obtain ⟨gb, -, hbg⟩ := box1 wr DG 53
              have hszs : (Tryz.prog.info? 53).map (·.size) = some DG.toList.length := by rw [Array.length_toList, hG1]; exact sig_size
              have HV1 := Lib.hid (hv.alloc (.cells DG 53))
              have NB1 := nb.alloc (.cells DG 53)
              unfold maxLen at hnm2 hun2
              have ct := cT L (s.d.name.length : Nat) (by omega) _ HV1.out
              have HV2 := Lib.hid (HV1.out.take (n := (s.d.name.length : Nat)) (by omega))
              have hG : w.heap.size + 1 < wr.heap.size := hv.lt
              have NB2 := Lib.hid (NB1.other (a := ⟨w.heap.size + 1, 0, none⟩) (show w.heap.size + 1 ≠ M by omega) (.int .i64 (tkI L (s.d.name.length : Nat))))
              have GB2 := Lib.hid (gb.other (a := ⟨w.heap.size + 1, 0, none⟩) (show w.heap.size + 1 ≠ wr.heap.size by omega) (.int .i64 (tkI L (s.d.name.length : Nat))))
              have HPC := Lib.hid (show 0 < tkI L (s.d.name.length : Nat) → ((x.ver.text.length ≤ 16777216 ∧ x.sta.names.length ≤ 262144 ∧ (∀ r ∈ x.sta.names, r.length ≤ 16777216)) ∧ (∀ r ∈ x.msgs.take k, MsgFine r) ∧ y.name.length ≤ 16777216 ∧ y.sender.length ≤ 16777216) ∧ tkI L (s.d.name.length : Nat) + 64 * ((k + 1 : Nat) : Int) ≤ 16777216 ∧ tkI L (s.d.name.length : Nat) + 64 * ((j + 1 : Nat) : Int) ≤ 16777216 ∧ (∀ r ∈ y.sigs.take j, SxFine r) ∧ s.d.name.length ≤ 16777216 from fun h => by
                obtain ⟨h1, h2⟩ := tk_pos h
                obtain ⟨h3, h4, h5, h6⟩ := hp hLj
                exact ⟨h3, by omega, by omega, h6, by have := hv.bd; omega⟩)
              clear hv hp hs3 hok2 hbg gb nb NB1 hDG
              generalize tkI L (s.d.name.length : Nat) = L2 at *
              go_wp2_with (first | (refine wpList_load_mid rfl 53 (.tmp 76) rfl b2 (o2 + j * 19) rfl DG.toList _ hrg2 Tryz.underlying53 rfl hszs ?_; rw [Array.toArray_toList]) | (refine wpList_newS (Z := zeroSig) (cs := DG) 53 (.tmp 8) (.tmp 77) (by rw [hG1]; exact sig_zero) (by rw [hG1]; rfl) hG2 ?_))
              with_reducible refine ct.mono ?_
              rintro e w5 ⟨rfl, hw5⟩
              rw [← hw5] at HV2 NB2 GB2
              clear hw5 ct HV1 hszs hrg2 f7 f0 g2
              have GB3 := GB2.out
              rw [HDG.out] at GB3
              have m17 := GB3.cell 17 (.string ⟨s.d.unit.toArray⟩) rfl
              have ct := cT L2 (s.d.unit.length : Nat) (by omega) w5 HV2.out
              have HV3 := Lib.hid (HV2.out.take (n := (s.d.unit.length : Nat)) (by omega))
              have NB4 := Lib.hid (NB2.out.other (a := ⟨w.heap.size + 1, 0, none⟩) (show w.heap.size + 1 ≠ M by omega) (.int .i64 (tkI L2 (s.d.unit.length : Nat))))
              have GB4 := Lib.hid (GB2.out.other (a := ⟨w.heap.size + 1, 0, none⟩) (show w.heap.size + 1 ≠ wr.heap.size by omega) (.int .i64 (tkI L2 (s.d.unit.length : Nat))))
              have HPD := Lib.hid (show 0 < tkI L2 (s.d.unit.length : Nat) → (((x.ver.text.length ≤ 16777216 ∧ x.sta.names.length ≤ 262144 ∧ (∀ r ∈ x.sta.names, r.length ≤ 16777216)) ∧ (∀ r ∈ x.msgs.take k, MsgFine r) ∧ y.name.length ≤ 16777216 ∧ y.sender.length ≤ 16777216) ∧ (∀ r ∈ y.sigs.take j, SxFine r) ∧ s.d.name.length ≤ 16777216 ∧ s.d.unit.length ≤ 16777216) ∧ tkI L2 (s.d.unit.length : Nat) + 64 * ((k + 1 : Nat) : Int) ≤ 16777216 ∧ tkI L2 (s.d.unit.length : Nat) + 64 * ((j + 1 : Nat) : Int) ≤ 16777216 from fun h => by
                obtain ⟨h1, h2⟩ := tk_pos h
                obtain ⟨h3, h4, h5, h6, h7⟩ := HPC.out (by omega)
                exact ⟨⟨h3, h6, h7, by have := HV2.out.bd; omega⟩, by omega, by omega⟩)
              clear HPC GB3 HV2
              generalize tkI L2 (s.d.unit.length : Nat) = L3 at *
              go_wp2_with fail
              with_reducible refine ct.mono ?_
              rintro e w6 ⟨rfl, hw6⟩
              rw [← hw6] at HV3 NB4 GB4
              clear hw6 ct m17 NB2 GB2
              go_wp2_with fail
              generalize wr.heap.size = G at *
              go_loopw [9] (fun i wi => ∃ (q : Nat) (L : Int), q ≤ s.rs.length ∧ i = .int .i64 (q : Nat) ∧ VasW w C L wi ∧ Blk wi M DS ∧ Blk wi G DG ∧ (0 < L → (((x.ver.text.length ≤ 16777216 ∧ x.sta.names.length ≤ 262144 ∧ (∀ r ∈ x.sta.names, r.length ≤ 16777216)) ∧ (∀ r ∈ x.msgs.take k, MsgFine r) ∧ y.name.length ≤ 16777216 ∧ y.sender.length ≤ 16777216) ∧ (∀ r ∈ y.sigs.take j, SxFine r) ∧ s.d.name.length ≤ 16777216 ∧ s.d.unit.length ≤ 16777216) ∧ L + 64 * ((k + 1 : Nat) : Int) ≤ 16777216 ∧ L + 64 * ((j + 1 : Nat) : Int) ≤ 16777216 ∧ L + 64 * (q : Int) ≤ 16777216 ∧ ∀ r ∈ s.rs.take q, r.length ≤ 16777216)) (fun i _ => s.rs.length - (intOf i).toNat)
              case atStart => exact ⟨0, L3, Nat.zero_le _, rfl, HV3.out, NB4.out, GB4.out, fun h => ⟨(HPD.out h).1, (HPD.out h).2.1, (HPD.out h).2.2, by have := HV3.out.bd; omega, by simp⟩⟩
              case round =>
                clear HV3 NB4 GB4 HPD
                obtain ⟨q, L, hq, rfl, hv, nb, gb, hp⟩ := hrel
                have GB := gb
                rw [HDG.out] at GB
                have f18 := GB.cell 18 (.slice a3 s.rs.length c3) rfl
                have f0 := hv.left.cell 0 _ rfl
                clear GB
                by_cases hlq : (q : Int) < s.rs.length
                by_cases hLq : (0 : Int) < L
                · have hlq' : q < s.rs.length := by omega
                  obtain ⟨b4, o4, rfl, hb4, hc4⟩ := SlX.at (HS3.out.keep hv.bel (Nat.le_refl _)) hlq'
                  have hok4 := HW3.out _ (List.getElem_mem hlq')
                  have HTK4 := Lib.hid (fun h1 h2 => take_all (P := fun r : List UInt8 => r.length ≤ 16777216) h1 hlq' h2)
                  generalize s.rs[q] = z at *
                  have ct := cT L (z.length : Nat) (by omega) wr hv
                  have HV := Lib.hid (hv.take (n := (z.length : Nat)) (by omega))
                  have NB5 := Lib.hid (nb.other (a := ⟨w.heap.size + 1, 0, none⟩) (show w.heap.size + 1 ≠ M by omega) (.int .i64 (tkI L (z.length : Nat))))
                  have GB5 := Lib.hid (gb.other (a := ⟨w.heap.size + 1, 0, none⟩) (show w.heap.size + 1 ≠ G by omega) (.int .i64 (tkI L (z.length : Nat))))
                  have HPN := Lib.hid (show 0 < tkI L (z.length : Nat) → (((x.ver.text.length ≤ 16777216 ∧ x.sta.names.length ≤ 262144 ∧ (∀ r ∈ x.sta.names, r.length ≤ 16777216)) ∧ (∀ r ∈ x.msgs.take k, MsgFine r) ∧ y.name.length ≤ 16777216 ∧ y.sender.length ≤ 16777216) ∧ (∀ r ∈ y.sigs.take j, SxFine r) ∧ s.d.name.length ≤ 16777216 ∧ s.d.unit.length ≤ 16777216) ∧ tkI L (z.length : Nat) + 64 * ((k + 1 : Nat) : Int) ≤ 16777216 ∧ tkI L (z.length : Nat) + 64 * ((j + 1 : Nat) : Int) ≤ 16777216 ∧ tkI L (z.length : Nat) + 64 * ((q + 1 : Nat) : Int) ≤ 16777216 ∧ ∀ r ∈ s.rs.take (q + 1), r.length ≤ 16777216 from fun h => by
                    obtain ⟨h1, h2⟩ := tk_pos h
                    obtain ⟨h3, h4, h5, h6, h7⟩ := hp hLq
                    exact ⟨h3, by omega, by omega, by omega, HTK4.out h7 (by have := hv.bd; omega)⟩)
                  clear hv hp nb gb HTK4
                  generalize tkI L (z.length : Nat) = L2 at *
                  go_wp2_with fail
                  with_reducible refine ct.mono ?_
                  rintro e w7 ⟨rfl, hw7⟩
                  rw [← hw7] at HV NB5 GB5
                  clear hw7 ct
                  go_wp2_with fail
                  go_roundw
                  case rel => exact ⟨q + 1, L2, by omega, by go_num, HV.out, NB5.out, GB5.out, HPN.out⟩
                  case measure => simp [intOf]; omega
                all_goals
                  have HR : Hid (VasW w C L wr ∧ Blk wr M DS ∧ (0 < L → ((x.ver.text.length ≤ 16777216 ∧ x.sta.names.length ≤ 262144 ∧ (∀ r ∈ x.sta.names, r.length ≤ 16777216)) ∧ (∀ r ∈ x.msgs.take k, MsgFine r) ∧ y.name.length ≤ 16777216 ∧ y.sender.length ≤ 16777216) ∧ L + 64 * ((k + 1 : Nat) : Int) ≤ 16777216 ∧ L + 64 * ((j + 1 : Nat) : Int) ≤ 16777216 ∧ ∀ r ∈ y.sigs.take (j + 1), SxFine r)) := Lib.hid (by
                    refine ⟨hv, nb, fun h => ?_⟩
                    first
                      | exact absurd h hLq
                      | (obtain ⟨⟨h1, h2, h3, h4⟩, h5, h6, h7, h8⟩ := hp h
                         have e : q = s.rs.length := by omega
                         rw [e, List.take_length] at h8
                         exact ⟨h1, h5, h6, HTK2.out h2 ⟨h3, h4, by omega, h8⟩⟩))
                  clear hv hp nb gb
                  go_wp2_with fail
                  go_roundw
                  case rel => exact ⟨j + 1, L, by omega, by go_num, HR.out.1, HR.out.2.1, HR.out.2.2⟩
                  case measure => simp [intOf]; omega
            all_goals
              have HR : Hid (VasW w C L wr ∧ (0 < L → (x.ver.text.length ≤ 16777216 ∧ x.sta.names.length ≤ 262144 ∧ (∀ r ∈ x.sta.names, r.length ≤ 16777216)) ∧ L + 64 * ((k + 1 : Nat) : Int) ≤ 16777216 ∧ ∀ r ∈ x.msgs.take (k + 1), MsgFine r)) := Lib.hid (by
                refine ⟨hv, fun h => ?_⟩
                first
                  | exact absurd h hLj
                  | (obtain ⟨⟨h1, h2, h3, h4⟩, h5, h6, h7⟩ := hp h
                     have e : j = y.sigs.length := by omega
                     rw [e, List.take_length] at h7
                     exact ⟨h1, h5, HTK.out h2 ⟨h3, h4, by omega, h7⟩⟩))
              clear hv hp nb
              go_wp2_with fail
              go_roundw
              case rel => exact ⟨k + 1, L, by omega, by go_num, HR.out.1, HR.out.2⟩
              case measure => simp [intOf]; omega
        all_goals
          have HR : Hid (VasW w C L wr ∧ (0 < L → x.ver.text.length ≤ 16777216 ∧ x.sta.names.length ≤ 262144 ∧ (∀ r ∈ x.sta.names, r.length ≤ 16777216) ∧ x.msgs.length ≤ 262144 ∧ (∀ m ∈ x.msgs, MsgFine m))) := Lib.hid (by
            refine ⟨hv, fun h => ?_⟩
            first
              | exact absurd h hL
              | (obtain ⟨⟨h1, h2, h3⟩, h4, h5⟩ := hp h
                 have e : k = x.msgs.length := by omega
                 rw [e, List.take_length] at h5
                 exact ⟨h1, h2, h3, by omega, h5⟩))
          clear hv hp
          go_wp2_with fail
          clear f7 f8 f0
          go_loopw [10] (fun i wr => ∃ (k : Nat) (L : Int), k ≤ x.tabs.length ∧ i = .int .i64 (k : Nat) ∧ VasW w C L wr ∧ (0 < L → (x.ver.text.length ≤ 16777216 ∧ x.sta.names.length ≤ 262144 ∧ (∀ r ∈ x.sta.names, r.length ≤ 16777216) ∧ x.msgs.length ≤ 262144 ∧ (∀ m ∈ x.msgs, MsgFine m)) ∧ L + 64 * k ≤ 16777216 ∧ ∀ r ∈ x.tabs.take k, TabFine r)) (fun i _ => x.tabs.length - (intOf i).toNat)
          case atStart => exact ⟨0, L, Nat.zero_le _, rfl, HR.out.1, fun h => ⟨HR.out.2 h, by have := HR.out.1.bd; omega, by simp⟩⟩
          case round =>
            clear HR
            obtain ⟨k, L, hk, rfl, hv, hp⟩ := hrel
            have B1 := hv.box
            rw [HC.out] at B1
            have f8 := B1.cell 8 _ rfl
            have f0 := hv.left.cell 0 _ rfl
            clear B1
            by_cases hlt : (k : Int) < x.tabs.length
            by_cases hL : (0 : Int) < L
            · have hlt' : k < x.tabs.length := by omega
              obtain ⟨bb, oo, rfl, hb, ds, hcl, hrd, hrg0⟩ := SlRd.at HTB.out (by decide) hlt'
              have hrg : wr.rangeAt bb (oo + k * 6) ds := fun j u hu => cell_keep' (hrg0 j u hu) hv.bel
              clear hrg0
              obtain ⟨hd1, hd2⟩ := rdTab_one hrd
              have hok := HW.out.tb _ (List.getElem_mem hlt')
              have HTK := Lib.hid (fun h1 h2 => take_all (P := TabFine) h1 hlt' h2)
              generalize x.tabs[k] = y at *
              obtain ⟨ay, cy, eds, hsy⟩ := hrd
              have HSY := Lib.hid hsy
              have hsl := hsy.len
              have hsg := hok.sg
              have HOK := Lib.hid hok
              obtain ⟨DS, hDS⟩ : ∃ DS, DS = y.cells (.slice ay y.rows.length cy) := ⟨_, rfl⟩
              rw [← hDS] at eds
              subst eds
              rw [Array.toArray_toList] at hd1 hd2
              have g4 : ∀ h, DS[4]'h = .string ⟨y.sig.toArray⟩ := by rw [hDS]; exact fun _ => rfl
              have HDS := Lib.hid hDS
              clear hDS
              obtain ⟨nb, -, hbn⟩ := box1 wr DS 57
              have hszm : (Tryz.prog.info? 57).map (·.size) = some DS.toList.length := by rw [Array.length_toList, hd1]; exact tab_size
              have HV1 := Lib.hid (hv.alloc (.cells DS 57))
              have ct := cT L (y.sig.length : Nat) (by omega) _ HV1.out
              have HV2 := Lib.hid (HV1.out.take (n := (y.sig.length : Nat)) (by omega))
              have hM : w.heap.size + 1 < wr.heap.size := hv.lt
              have NB2 := Lib.hid (nb.other (a := ⟨w.heap.size + 1, 0, none⟩) (show w.heap.size + 1 ≠ wr.heap.size by omega) (.int .i64 (tkI L (y.sig.length : Nat))))
              have HPA := Lib.hid (show 0 < tkI L (y.sig.length : Nat) → ((x.ver.text.length ≤ 16777216 ∧ x.sta.names.length ≤ 262144 ∧ (∀ r ∈ x.sta.names, r.length ≤ 16777216) ∧ x.msgs.length ≤ 262144 ∧ (∀ m ∈ x.msgs, MsgFine m)) ∧ (∀ r ∈ x.tabs.take k, TabFine r) ∧ y.sig.length ≤ 16777216) ∧ tkI L (y.sig.length : Nat) + 64 * ((k + 1 : Nat) : Int) ≤ 16777216 from fun h => by
                obtain ⟨h1, h2⟩ := tk_pos h
                obtain ⟨h3, h4, h5⟩ := hp hL
                exact ⟨⟨h3, h5, by have := hv.bd; omega⟩, by omega⟩)
              clear hv hp hsy hok hbn nb
              generalize tkI L (y.sig.length : Nat) = L2 at *
              go_wp2_with (first | (refine wpList_load_mid rfl 57 (.tmp 118) rfl bb (oo + k * 6) rfl DS.toList _ hrg Tryz.underlying57 rfl hszm ?_; rw [Array.toArray_toList]) | (refine wpList_newS (Z := zeroTabD) (cs := DS) 57 (.tmp 11) (.tmp 119) (by rw [hd1]; exact tab_zero) (by rw [hd1]; rfl) hd2 ?_))
              with_reducible refine ct.mono ?_
              rintro e w3 ⟨rfl, hw3⟩
              rw [← hw3] at HV2 NB2
              clear hw3 ct HV1 hszm hrg f8 f0 g4
              go_wp2_with fail
              generalize wr.heap.size = M at *
              go_loopw [12] (fun i wi => ∃ (j : Nat) (L : Int), j ≤ y.rows.length ∧ i = .int .i64 (j : Nat) ∧ VasW w C L wi ∧ Blk wi M DS ∧ (0 < L → ((x.ver.text.length ≤ 16777216 ∧ x.sta.names.length ≤ 262144 ∧ (∀ r ∈ x.sta.names, r.length ≤ 16777216) ∧ x.msgs.length ≤ 262144 ∧ (∀ m ∈ x.msgs, MsgFine m)) ∧ (∀ r ∈ x.tabs.take k, TabFine r) ∧ y.sig.length ≤ 16777216) ∧ L + 64 * ((k + 1 : Nat) : Int) ≤ 16777216 ∧ L + 64 * (j : Int) ≤ 16777216 ∧ ∀ r ∈ y.rows.take j, r.2.length ≤ 16777216)) (fun i _ => y.rows.length - (intOf i).toNat)
              case atStart => exact ⟨0, L2, Nat.zero_le _, rfl, HV2.out, NB2.out, fun h => ⟨(HPA.out h).1, (HPA.out h).2, by have := HV2.out.bd; omega, by simp⟩⟩
              case round =>
                clear HV2 NB2 HPA
                obtain ⟨j, L, hj, rfl, hv, nb, hp⟩ := hrel
                have NB := nb
                rw [HDS.out] at NB
                have f5 := NB.cell 5 (.slice ay y.rows.length cy) rfl
                have f0 := hv.left.cell 0 _ rfl
                clear NB
                by_cases hlj : (j : Int) < y.rows.length
                by_cases hLj : (0 : Int) < L
                · have hlj' : j < y.rows.length := by omega
                  obtain ⟨b2, o2, rfl, hb2, hc0, hc1⟩ := SlRw.at (HSY.out.keep hv.bel (Nat.le_refl _)) hlj'
                  have hok2 := (HOK.out.rw _ (List.getElem_mem hlj')).2
                  have HTK2 := Lib.hid (fun h1 h2 => take_all (P := fun r : Int × List UInt8 => r.2.length ≤ 16777216) h1 hlj' h2)
                  generalize y.rows[j] = z at *
                  obtain ⟨zv, zt⟩ := z
                  simp only at hc0 hc1 hok2 HTK2
                  have ct := cT L (zt.length : Nat) (by omega) wr hv
                  have HV := Lib.hid (hv.take (n := (zt.length : Nat)) (by omega))
                  have NB5 := Lib.hid (nb.other (a := ⟨w.heap.size + 1, 0, none⟩) (show w.heap.size + 1 ≠ M by omega) (.int .i64 (tkI L (zt.length : Nat))))
                  have HPN := Lib.hid (show 0 < tkI L (zt.length : Nat) → ((x.ver.text.length ≤ 16777216 ∧ x.sta.names.length ≤ 262144 ∧ (∀ r ∈ x.sta.names, r.length ≤ 16777216) ∧ x.msgs.length ≤ 262144 ∧ (∀ m ∈ x.msgs, MsgFine m)) ∧ (∀ r ∈ x.tabs.take k, TabFine r) ∧ y.sig.length ≤ 16777216) ∧ tkI L (zt.length : Nat) + 64 * ((k + 1 : Nat) : Int) ≤ 16777216 ∧ tkI L (zt.length : Nat) + 64 * ((j + 1 : Nat) : Int) ≤ 16777216 ∧ ∀ r ∈ y.rows.take (j + 1), r.2.length ≤ 16777216 from fun h => by
                    obtain ⟨h1, h2⟩ := tk_pos h
                    obtain ⟨h3, h4, h5, h6⟩ := hp hLj
                    exact ⟨h3, by omega, by omega, HTK2.out h6 (by have := hv.bd; show zt.length ≤ 16777216; omega)⟩)
                  clear hv hp nb HTK2
                  generalize tkI L (zt.length : Nat) = L2 at *
                  go_wp2_with fail
                  with_reducible refine ct.mono ?_
                  rintro e w7 ⟨rfl, hw7⟩
                  rw [← hw7] at HV NB5
                  clear hw7 ct
                  go_wp2_with fail
                  go_roundw
                  case rel => exact ⟨j + 1, L2, by omega, by go_num, HV.out, NB5.out, HPN.out⟩
                  case measure => simp [intOf]; omega
                all_goals
                  have HR : Hid (VasW w C L wr ∧ (0 < L → (x.ver.text.length ≤ 16777216 ∧ x.sta.names.length ≤ 262144 ∧ (∀ r ∈ x.sta.names, r.length ≤ 16777216) ∧ x.msgs.length ≤ 262144 ∧ (∀ m ∈ x.msgs, MsgFine m)) ∧ L + 64 * ((k + 1 : Nat) : Int) ≤ 16777216 ∧ ∀ r ∈ x.tabs.take (k + 1), TabFine r)) := Lib.hid (by
                    refine ⟨hv, fun h => ?_⟩
                    first
                      | exact absurd h hLj
                      | (obtain ⟨⟨h1, h2, h3⟩, h5, h6, h7⟩ := hp h
                         have e : j = y.rows.length := by omega
                         rw [e, List.take_length] at h7
                         exact ⟨h1, h5, HTK.out h2 ⟨h3, by omega, h7⟩⟩))
                  clear hv hp nb
                  go_wp2_with fail
                  go_roundw
                  case rel => exact ⟨k + 1, L, by omega, by go_num, HR.out.1, HR.out.2⟩
                  case measure => simp [intOf]; omega
            all_goals
              have HR : Hid (Below w.heap.size w wr ∧ (0 < L → DbFine x)) := Lib.hid (by
                refine ⟨hv.bel, fun h => ?_⟩
                first
                  | exact absurd h hL
                  | (obtain ⟨⟨h1, h2, h3, h4, h5⟩, h6, h7⟩ := hp h
                     have e : k = x.tabs.length := by omega
                     rw [e, List.take_length] at h7
                     exact ⟨h1, h2, h3, h4, h5, by omega, h7⟩))
              clear hv hp
              by_cases hLL : L ≤ 0
              all_goals
                first
                  | (exfalso; omega)
                  | (go_wp2_with fail
                     go_ret
                     first
                       | exact ⟨HR.out.1, .inl rfl⟩
                       | exact ⟨HR.out.1, .inr ⟨rfl, HR.out.2 (by omega)⟩⟩)
end Go.Proofs.YtampdbkafkcfdaaGreatDoor
