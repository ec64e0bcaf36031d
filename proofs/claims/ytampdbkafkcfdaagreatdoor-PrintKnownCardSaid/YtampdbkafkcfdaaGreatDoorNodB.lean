/-
  Layer 5: node.message: contract. (Printed by gen_nodb.py.)
-/
import Derived.Test.YtampdbkafkcfdaaGreatDoorCopB

namespace Go.Proofs.YtampdbkafkcfdaaGreatDoor
set_option linter.unusedVariables false
open Go.RowKit

theorem MsgD.cells_size (d : MsgD) (tv : Value) : (d.cells tv).size = 8 := rfl
theorem MsgD.cells_one (d : MsgD) (a : Option Addr) (n c : Nat) : (d.cells (.slice a n c)).all (·.oneCell') = true := by unfold MsgD.cells; simp [Value.oneCell']
theorem MsgD.cells_to (d : MsgD) (tv : Value) : (d.cells tv)[7]? = some tv := rfl
theorem MsgD.cells_set (d : MsgD) (tv v : Value) : (d.cells tv).setIfInBounds 7 v = d.cells v := rfl
abbrev zeroMsgD : Array Value := #[.int .i64 0, .int .i64 0, .int .u32 0, .bool false, .string ⟨#[]⟩, .int .i64 0, .string ⟨#[]⟩, .slice none 0 0]
theorem msg_zero : (Tryz.prog.info? 46).map (fun i => (i.zero, i.size)) = some (some (.agg zeroMsgD), 8) := by kernel_rfl
theorem msg_size : (Tryz.prog.info? 46).map (·.size) = some 8 := by kernel_rfl

theorem TabD.cells_size (d : TabD) (tv : Value) : (d.cells tv).size = 6 := rfl
theorem TabD.cells_one (d : TabD) (a : Option Addr) (n c : Nat) : (d.cells (.slice a n c)).all (·.oneCell') = true := by unfold TabD.cells; simp [Value.oneCell']
theorem TabD.cells_to (d : TabD) (tv : Value) : (d.cells tv)[5]? = some tv := rfl
theorem TabD.cells_set (d : TabD) (tv v : Value) : (d.cells tv).setIfInBounds 5 v = d.cells v := rfl
abbrev zeroTabD : Array Value := #[.int .i64 0, .int .i64 0, .int .u32 0, .bool false, .string ⟨#[]⟩, .slice none 0 0]
theorem tab_zero : (Tryz.prog.info? 57).map (fun i => (i.zero, i.size)) = some (some (.agg zeroTabD), 6) := by kernel_rfl
theorem tab_size : (Tryz.prog.info? 57).map (·.size) = some 6 := by kernel_rfl

theorem StaD.cells_size (d : StaD) (tv : Value) : (d.cells tv).size = 3 := rfl
theorem StaD.cells_one (d : StaD) (a : Option Addr) (n c : Nat) : (d.cells (.slice a n c)).all (·.oneCell') = true := by unfold StaD.cells; simp [Value.oneCell']
theorem StaD.cells_to (d : StaD) (tv : Value) : (d.cells tv)[2]? = some tv := rfl
theorem StaD.cells_set (d : StaD) (tv v : Value) : (d.cells tv).setIfInBounds 2 v = d.cells v := rfl
abbrev zeroStaD : Array Value := #[.int .i64 0, .int .i64 0, .slice none 0 0]
theorem sta_zero : (Tryz.prog.info? 28).map (fun i => (i.zero, i.size)) = some (some (.agg zeroStaD), 3) := by kernel_rfl
theorem sta_size : (Tryz.prog.info? 28).map (·.size) = some 3 := by kernel_rfl

set_option maxRecDepth 100000 in
set_option maxHeartbeats 4000000 in
theorem copyMsg_anyN (x : MsgD) (w : World) (cs : Array Value) (hx : rdMsg w x cs.toList) (hr : x.sigs.length * 176 ≤ 140737488351232) (hr2 : ∀ s ∈ x.sigs, s.rs.length * 16 ≤ 140737488351232) (B : Nat) (hB : B ≤ w.heap.size) :
    Calls Tryz.prog 48 #[.agg cs] w fun e w' => ∃ C : Array Value, e = .returned (.agg C) ∧ fdMsgN B w' x C.toList ∧ Below w.heap.size w w' := by
  obtain ⟨a, cap, ecs, hs⟩ := hx
  obtain rfl : cs = x.cells (.slice a x.sigs.length cap) := Array.toList_inj.1 ecs
  clear ecs
  have e0 := MsgD.cells_size x (.slice a x.sigs.length cap)
  have e1 := MsgD.cells_one x a x.sigs.length cap
  have e2 := MsgD.cells_to x (.slice a x.sigs.length cap)
  have ES := Lib.hid (MsgD.cells_set x (.slice a x.sigs.length cap))
  have EO := Lib.hid (MsgD.cells_one x)
  have EZ := Lib.hid (MsgD.cells_size x)
  have e3 : ∀ h, (x.cells (.slice a x.sigs.length cap))[7]'h = .slice a x.sigs.length cap := fun _ => rfl
  have c := fun W hW hWB => copySigs_anyN x.sigs x.sigs.length rfl a cap W hW hr hr2 B hWB
  generalize x.cells (.slice a x.sigs.length cap) = C at *
  obtain ⟨zb, -, hbz⟩ := box2 w C zeroMsgD 46 46
  have hu := Tryz.underlying46
  have hb3 : Below w.heap.size w (((w.alloc (.cells C 46)).alloc (.cells zeroMsgD 46)).alloc (.cells C 46)) := hbz.2.alloc (by simp; omega) _
  have HS3 := Lib.hid (hs.keep last_rdSig hb3)
  clear hs
  go_enter Tryz.func48, Tryz.ntmps48
  go_wp2_with (first | (refine wpList_loadS zb 46 (.tmp 1) hu (by rw [e0]; exact msg_size) ?_) | (refine wpList_newS (Z := zeroMsgD) (cs := C) 46 (.tmp 3) (.tmp 4) (by rw [e0]; exact msg_zero) (by rw [e0]; rfl) e1 ?_))
  with_reducible refine (c _ HS3.out (Nat.le_trans hB (by simp only [World.size_alloc]; omega))).mono ?_
  rintro e w1 ⟨v, rfl, ho, hb⟩
  obtain ⟨a2, c2, rfl, -⟩ := ho.shape
  have hb4 := bstep hb3 hb (Nat.le_refl _)
  have t3 := ((Blk.new _ C 46).keep hb (Nat.le_refl _))
  have t2 := (((Blk.new _ zeroMsgD 46).alloc (.cells C 46)).keep hb (Nat.le_refl _))
  have HK2 := Lib.hid ((hb.block (w.heap.size + 1) (by simp)).trans (show _ = some (.cells zeroMsgD 46) by rw [Below.heap_alloc _ _ _ (by simp)]; simpa using heap_alloc_new (w.alloc (.cells C 46)) (.cells zeroMsgD 46)))
  have HK3 := Lib.hid ((hb.block (w.heap.size + 2) (by simp)).trans (show _ = some (.cells C 46) by simpa using heap_alloc_new ((w.alloc (.cells C 46)).alloc (.cells zeroMsgD 46)) (.cells C 46)))
  simp only [World.size_alloc] at t3 t2
  have T3 := Lib.hid ((t3.put 7 (.slice a2 x.sigs.length c2)))
  have T2 := Lib.hid (t2.other (a := ⟨w.heap.size + 1 + 1, 7, none⟩) (show w.heap.size + 1 + 1 ≠ w.heap.size + 1 by omega) (.slice a2 x.sigs.length c2))
  rw [ES.out] at T3
  have f0 := t3.cell 7 _ e2
  have f1 := t3.free 7
  have q0 := EZ.out (.slice a2 x.sigs.length c2)
  have q1 := EO.out a2 x.sigs.length c2
  have HO := Lib.hid ho
  have HB4 := Lib.hid hb4
  have HSZ := Lib.hid hb.size
  generalize hD : x.cells (.slice a2 x.sigs.length c2) = D at *
  have HD := Lib.hid hD
  clear hD
  clear t3 t2 hb hb3 hb4 c zb e1 ho
  go_wp2_with (first | (refine wpList_loadS T3.out 46 (.tmp 3) hu (by rw [q0]; exact msg_size) ?_) | (refine wpList_storeS T2.out 46 (.tmp 2) (.tmp 9) (by rw [q0]; exact msg_size) (by rw [q0]; rfl) q1 ?_))
  have hrun := run_loadS (T2.out.row D) 46 _ hu rfl (by rw [q0]; exact msg_size)
  have hb5 := HB4.out
  have hz : w.heap.size + 1 + 1 + 1 ≤ w1.heap.size := Nat.le_trans (by simp) HSZ.out
  refine bodyPost_ret (v := .agg D) (by simp [results, Tryz.results48, Act.put, asAddr, hrun]) rfl ⟨D, rfl, ⟨_, by rw [← HD.out], ?_⟩, ?_⟩
  · have h1 := OwnRd.apt (w' := w1.setCell ⟨w.heap.size + 2, 7, none⟩ (.slice a2 x.sigs.length c2)) HO.out (by decide) (apt_fdSigN B (by decide)) HK3.out (by simp [World.setCell]) (fun b _ hne => Below.heap_setCell _ _ _ _ hne)
    have hk2 : (w1.setCell ⟨w.heap.size + 2, 7, none⟩ (.slice a2 x.sigs.length c2)).heap[w.heap.size + 1]? = some (.cells zeroMsgD 46) := (Below.heap_setCell _ _ _ _ (by show w.heap.size + 1 ≠ w.heap.size + 2; omega)).trans HK2.out
    have h2 := OwnRd.apt (w' := (w1.setCell ⟨w.heap.size + 2, 7, none⟩ (.slice a2 x.sigs.length c2)).setRow (w.heap.size + 1) D) h1 (by decide) (apt_fdSigN B (by decide)) hk2 (by simp [World.setRow]) (fun b _ hne => heap_setRow_other _ _ _ _ hne)
    exact h2.fromBase (Nat.le_trans hB (by simp only [World.size_alloc]; omega))
  · exact below_row (hb5.setCell (by show w.heap.size ≤ w.heap.size + 2; omega) _) (by omega) _

set_option maxRecDepth 100000 in
set_option maxHeartbeats 4000000 in
theorem copyTab_anyN (x : TabD) (w : World) (cs : Array Value) (hx : rdTab w x cs.toList) (hr : x.rows.length * 24 ≤ 140737488351232) (B : Nat) (hB : B ≤ w.heap.size) :
    Calls Tryz.prog 49 #[.agg cs] w fun e w' => ∃ C : Array Value, e = .returned (.agg C) ∧ fdTabN B w' x C.toList ∧ Below w.heap.size w w' := by
  obtain ⟨a, cap, ecs, hs⟩ := hx
  obtain rfl : cs = x.cells (.slice a x.rows.length cap) := Array.toList_inj.1 ecs
  clear ecs
  have e0 := TabD.cells_size x (.slice a x.rows.length cap)
  have e1 := TabD.cells_one x a x.rows.length cap
  have e2 := TabD.cells_to x (.slice a x.rows.length cap)
  have ES := Lib.hid (TabD.cells_set x (.slice a x.rows.length cap))
  have EO := Lib.hid (TabD.cells_one x)
  have EZ := Lib.hid (TabD.cells_size x)
  have e3 : ∀ h, (x.cells (.slice a x.rows.length cap))[5]'h = .slice a x.rows.length cap := fun _ => rfl
  have c := fun W hW => copyRw_any x.rows x.rows.length rfl a cap W hW hr
  generalize x.cells (.slice a x.rows.length cap) = C at *
  obtain ⟨zb, -, hbz⟩ := box2 w C zeroTabD 57 57
  have hu := Tryz.underlying57
  have hb3 : Below w.heap.size w (((w.alloc (.cells C 57)).alloc (.cells zeroTabD 57)).alloc (.cells C 57)) := hbz.2.alloc (by simp; omega) _
  have HS3 := Lib.hid (hs.keep hb3 (Nat.le_refl _))
  clear hs
  go_enter Tryz.func49, Tryz.ntmps49
  go_wp2_with (first | (refine wpList_loadS zb 57 (.tmp 1) hu (by rw [e0]; exact tab_size) ?_) | (refine wpList_newS (Z := zeroTabD) (cs := C) 57 (.tmp 3) (.tmp 4) (by rw [e0]; exact tab_zero) (by rw [e0]; rfl) e1 ?_))
  with_reducible refine (c _ HS3.out).mono ?_
  rintro e w1 ⟨v, rfl, ho, hb⟩
  obtain ⟨a2, c2, rfl, -⟩ := ho.shape
  have hb4 := bstep hb3 hb (Nat.le_refl _)
  have t3 := ((Blk.new _ C 57).keep hb (Nat.le_refl _))
  have t2 := (((Blk.new _ zeroTabD 57).alloc (.cells C 57)).keep hb (Nat.le_refl _))
  have HK2 := Lib.hid ((hb.block (w.heap.size + 1) (by simp)).trans (show _ = some (.cells zeroTabD 57) by rw [Below.heap_alloc _ _ _ (by simp)]; simpa using heap_alloc_new (w.alloc (.cells C 57)) (.cells zeroTabD 57)))
  have HK3 := Lib.hid ((hb.block (w.heap.size + 2) (by simp)).trans (show _ = some (.cells C 57) by simpa using heap_alloc_new ((w.alloc (.cells C 57)).alloc (.cells zeroTabD 57)) (.cells C 57)))
  simp only [World.size_alloc] at t3 t2
  have T3 := Lib.hid ((t3.put 5 (.slice a2 x.rows.length c2)))
  have T2 := Lib.hid (t2.other (a := ⟨w.heap.size + 1 + 1, 5, none⟩) (show w.heap.size + 1 + 1 ≠ w.heap.size + 1 by omega) (.slice a2 x.rows.length c2))
  rw [ES.out] at T3
  have f0 := t3.cell 5 _ e2
  have f1 := t3.free 5
  have q0 := EZ.out (.slice a2 x.rows.length c2)
  have q1 := EO.out a2 x.rows.length c2
  have HO := Lib.hid ho
  have HB4 := Lib.hid hb4
  have HSZ := Lib.hid hb.size
  generalize hD : x.cells (.slice a2 x.rows.length c2) = D at *
  have HD := Lib.hid hD
  clear hD
  clear t3 t2 hb hb3 hb4 c zb e1 ho
  go_wp2_with (first | (refine wpList_loadS T3.out 57 (.tmp 3) hu (by rw [q0]; exact tab_size) ?_) | (refine wpList_storeS T2.out 57 (.tmp 2) (.tmp 9) (by rw [q0]; exact tab_size) (by rw [q0]; rfl) q1 ?_))
  have hrun := run_loadS (T2.out.row D) 57 _ hu rfl (by rw [q0]; exact tab_size)
  have hb5 := HB4.out
  have hz : w.heap.size + 1 + 1 + 1 ≤ w1.heap.size := Nat.le_trans (by simp) HSZ.out
  refine bodyPost_ret (v := .agg D) (by simp [results, Tryz.results49, Act.put, asAddr, hrun]) rfl ⟨D, rfl, ⟨_, by rw [← HD.out], ?_⟩, ?_⟩
  · refine Owns.ofBlock (HO.out.fromBase (Nat.le_trans hB (by simp only [World.size_alloc]; omega))) fun k hk => ?_
    have hk2 : w.heap.size + 1 + 1 + 1 ≤ k := Nat.le_trans (by simp) (HO.out.lt k hk).1
    rw [heap_setRow_other _ _ _ _ (show k ≠ w.heap.size + 1 by omega)]
    exact Below.heap_setCell _ _ _ _ (by show k ≠ w.heap.size + 2; omega)
  · exact below_row (hb5.setCell (by show w.heap.size ≤ w.heap.size + 2; omega) _) (by omega) _

set_option maxRecDepth 100000 in
set_option maxHeartbeats 4000000 in
theorem copySta_anyN (x : StaD) (w : World) (cs : Array Value) (hx : rdSta w x cs.toList) (hr : x.names.length * 16 ≤ 140737488351232) (B : Nat) (hB : B ≤ w.heap.size) :
    Calls Tryz.prog 28 #[.agg cs] w fun e w' => ∃ C : Array Value, e = .returned (.agg C) ∧ fdStaN B w' x C.toList ∧ Below w.heap.size w w' := by
  obtain ⟨a, cap, ecs, hs⟩ := hx
  obtain rfl : cs = x.cells (.slice a x.names.length cap) := Array.toList_inj.1 ecs
  clear ecs
  have e0 := StaD.cells_size x (.slice a x.names.length cap)
  have e1 := StaD.cells_one x a x.names.length cap
  have e2 := StaD.cells_to x (.slice a x.names.length cap)
  have ES := Lib.hid (StaD.cells_set x (.slice a x.names.length cap))
  have EO := Lib.hid (StaD.cells_one x)
  have EZ := Lib.hid (StaD.cells_size x)
  have e3 : ∀ h, (x.cells (.slice a x.names.length cap))[2]'h = .slice a x.names.length cap := fun _ => rfl
  have c := fun W hW => copyTx_any x.names x.names.length rfl a cap W hW hr
  generalize x.cells (.slice a x.names.length cap) = C at *
  obtain ⟨zb, -, hbz⟩ := box2 w C zeroStaD 28 28
  have hu := Tryz.underlying28
  have hb3 : Below w.heap.size w (((w.alloc (.cells C 28)).alloc (.cells zeroStaD 28)).alloc (.cells C 28)) := hbz.2.alloc (by simp; omega) _
  have HS3 := Lib.hid (hs.keep hb3 (Nat.le_refl _))
  clear hs
  go_enter Tryz.func28, Tryz.ntmps28
  go_wp2_with (first | (refine wpList_loadS zb 28 (.tmp 1) hu (by rw [e0]; exact sta_size) ?_) | (refine wpList_newS (Z := zeroStaD) (cs := C) 28 (.tmp 3) (.tmp 4) (by rw [e0]; exact sta_zero) (by rw [e0]; rfl) e1 ?_))
  with_reducible refine (c _ HS3.out).mono ?_
  rintro e w1 ⟨v, rfl, ho, hb⟩
  obtain ⟨a2, c2, rfl, -⟩ := ho.shape
  have hb4 := bstep hb3 hb (Nat.le_refl _)
  have t3 := ((Blk.new _ C 28).keep hb (Nat.le_refl _))
  have t2 := (((Blk.new _ zeroStaD 28).alloc (.cells C 28)).keep hb (Nat.le_refl _))
  have HK2 := Lib.hid ((hb.block (w.heap.size + 1) (by simp)).trans (show _ = some (.cells zeroStaD 28) by rw [Below.heap_alloc _ _ _ (by simp)]; simpa using heap_alloc_new (w.alloc (.cells C 28)) (.cells zeroStaD 28)))
  have HK3 := Lib.hid ((hb.block (w.heap.size + 2) (by simp)).trans (show _ = some (.cells C 28) by simpa using heap_alloc_new ((w.alloc (.cells C 28)).alloc (.cells zeroStaD 28)) (.cells C 28)))
  simp only [World.size_alloc] at t3 t2
  have T3 := Lib.hid ((t3.put 2 (.slice a2 x.names.length c2)))
  have T2 := Lib.hid (t2.other (a := ⟨w.heap.size + 1 + 1, 2, none⟩) (show w.heap.size + 1 + 1 ≠ w.heap.size + 1 by omega) (.slice a2 x.names.length c2))
  rw [ES.out] at T3
  have f0 := t3.cell 2 _ e2
  have f1 := t3.free 2
  have q0 := EZ.out (.slice a2 x.names.length c2)
  have q1 := EO.out a2 x.names.length c2
  have HO := Lib.hid ho
  have HB4 := Lib.hid hb4
  have HSZ := Lib.hid hb.size
  generalize hD : x.cells (.slice a2 x.names.length c2) = D at *
  have HD := Lib.hid hD
  clear hD
  clear t3 t2 hb hb3 hb4 c zb e1 ho
  go_wp2_with (first | (refine wpList_loadS T3.out 28 (.tmp 3) hu (by rw [q0]; exact sta_size) ?_) | (refine wpList_storeS T2.out 28 (.tmp 2) (.tmp 9) (by rw [q0]; exact sta_size) (by rw [q0]; rfl) q1 ?_))
  have hrun := run_loadS (T2.out.row D) 28 _ hu rfl (by rw [q0]; exact sta_size)
  have hb5 := HB4.out
  have hz : w.heap.size + 1 + 1 + 1 ≤ w1.heap.size := Nat.le_trans (by simp) HSZ.out
  refine bodyPost_ret (v := .agg D) (by simp [results, Tryz.results28, Act.put, asAddr, hrun]) rfl ⟨D, rfl, ⟨_, by rw [← HD.out], ?_⟩, ?_⟩
  · refine Owns.ofBlock (HO.out.fromBase (Nat.le_trans hB (by simp only [World.size_alloc]; omega))) fun k hk => ?_
    have hk2 : w.heap.size + 1 + 1 + 1 ≤ k := Nat.le_trans (by simp) (HO.out.lt k hk).1
    rw [heap_setRow_other _ _ _ _ (show k ≠ w.heap.size + 1 by omega)]
    exact Below.heap_setCell _ _ _ _ (by show k ≠ w.heap.size + 2; omega)
  · exact below_row (hb5.setCell (by show w.heap.size ≤ w.heap.size + 2; omega) _) (by omega) _

theorem fdMsg_size {B : Nat} {w : World} {x : MsgD} {cs : List Value} (h : fdMsgN B w x cs) : cs.length = 8 := by
  obtain ⟨v, rfl, _⟩ := h
  rfl
theorem fdMsg_one {B : Nat} {w : World} {x : MsgD} {C : Array Value} (h : fdMsgN B w x C.toList) : C.all (·.oneCell') = true := by
  obtain ⟨v, e, ho⟩ := h
  obtain ⟨a, cap, rfl, _⟩ := ho.shape
  rw [Array.toList_inj.1 e]
  exact MsgD.cells_one _ _ _ _
theorem msgs_ty : SlTy Tryz.prog 29 46 8 88 := SlTy.mk' (.agg zeroMsgD) Tryz.underlying29 (by kernel_rfl) rfl (by decide) (by decide)

set_option maxRecDepth 100000 in
set_option maxHeartbeats 4000000 in
theorem copyMsgs_anyN (l : List MsgD) (n : Nat) (hn : n = l.length) (a : Option Addr) (cap : Nat) (w : World) (hs : SlRd w rdMsg 8 a cap l) (hr : l.length * 88 ≤ 140737488351232) (hr2 : ∀ x ∈ l, x.sigs.length * 176 ≤ 140737488351232 ∧ ∀ s ∈ x.sigs, s.rs.length * 16 ≤ 140737488351232) (B : Nat) (hB : B ≤ w.heap.size) :
    Calls Tryz.prog 26 #[.slice a n cap] w fun e w' => ∃ v, e = .returned v ∧ OwnRd w' w.heap.size 46 (fdMsgN B) 8 v l ∧ Below w.heap.size w w' := by
  subst hn
  have hu := Tryz.underlying46
  go_enter Tryz.func26, Tryz.ntmps26
  go_wp2_with fail
  go_loopw [3, 4] (fun v i wr => ∃ k : Nat, k ≤ l.length ∧ i = .int .i64 k ∧ OwnRd wr w.heap.size 46 (fdMsgN B) 8 v (l.take k) ∧ Below w.heap.size w wr) (fun _ i _ => l.length - (intOf i).toNat)
  case atStart => exact ⟨0, Nat.zero_le _, rfl, OwnRd.nil _ _ _ _ _, Below.refl _ _⟩
  case round =>
    obtain ⟨k, hk, rfl, hown, hbel⟩ := hrel
    by_cases hlt : k < l.length
    · obtain ⟨b, o, rfl, hb, cs, hcl, hrd, hrg⟩ := SlRd.at (hs.keep last_rdMsg hbel) (by decide) hlt
      have c := copyMsg_anyN l[k] wr cs.toArray hrd (hr2 _ (List.getElem_mem hlt)).1 (hr2 _ (List.getElem_mem hlt)).2 B (Nat.le_trans hB hbel.size)
      have hsz : (Tryz.prog.info? 46).map (·.size) = some cs.length := by rw [hcl]; exact msg_size
      go_wp2_with (refine wpList_load_mid rfl 46 (.tmp 14) rfl b (o + k * 8) rfl cs _ hrg hu rfl hsz ?_)
      with_reducible refine c.mono ?_
      rintro e w1 ⟨C, rfl, hfd, hb1⟩
      have hC : C.size = 8 := by have := fdMsg_size hfd; rwa [Array.length_toList] at this
      have hC1 := fdMsg_one hfd
      obtain ⟨nb, -, hbn⟩ := box1 w1 C 46
      have hfd2 := (last_fdMsgN B) _ _ _ _ hfd hbn
      have hown2 := (hown.keep (last_fdMsgN B) hb1).keep (last_fdMsgN B) hbn
      have hbel2 := bstep (bstep hbel hb1 (Nat.le_refl _)) hbn (Nat.le_refl _)
      have hfold := fold_set zeroMsgD C 8 hC rfl
      clear hown hbel hb1 hrg hrd hfd hbn c
      go_wp2_with (first | (at_builtin; go_loud (refine wpList_append_rd (last_fdMsgN B) msgs_ty (l.take k) l[k] hown2 hbel2 (Nat.le_refl _) (by simp; omega) hfd2 hC hC1 (apt_fdMsgN B (by decide) (by decide)) ?_ (hx := by rw [World.size_alloc]; rfl))) | (refine wpList_newS (Z := zeroMsgD) (cs := C) 46 (.tmp 5) (.tmp 16) (by rw [hC]; exact msg_zero) (by rw [hC]; rfl) hC1 ?_) | (refine wpList_loadS nb 46 (.tmp 5) hu (by rw [hC]; exact msg_size) ?_))
      intro v' w3 hown3 hb3 hg3
      clear hown2 hbel2 nb
      go_wp2_with fail
      go_roundw
      case rel => exact ⟨k + 1, by omega, by go_num, hown3, hb3⟩
      case measure => simp [intOf]; omega
    · have : k = l.length := by omega
      subst this
      rw [List.take_length] at hown
      obtain ⟨a2, c2, rfl, -⟩ := hown.shape
      go_wp2_with fail
      go_ret
      exact ⟨_, rfl, hown, hbel⟩

theorem fdTab_size {B : Nat} {w : World} {x : TabD} {cs : List Value} (h : fdTabN B w x cs) : cs.length = 6 := by
  obtain ⟨v, rfl, _⟩ := h
  rfl
theorem fdTab_one {B : Nat} {w : World} {x : TabD} {C : Array Value} (h : fdTabN B w x C.toList) : C.all (·.oneCell') = true := by
  obtain ⟨v, e, ho⟩ := h
  obtain ⟨a, cap, rfl, _⟩ := ho.shape
  rw [Array.toList_inj.1 e]
  exact TabD.cells_one _ _ _ _
theorem tabs_ty : SlTy Tryz.prog 30 57 6 64 := SlTy.mk' (.agg zeroTabD) Tryz.underlying30 (by kernel_rfl) rfl (by decide) (by decide)

set_option maxRecDepth 100000 in
set_option maxHeartbeats 4000000 in
theorem copyTabs_anyN (l : List TabD) (n : Nat) (hn : n = l.length) (a : Option Addr) (cap : Nat) (w : World) (hs : SlRd w rdTab 6 a cap l) (hr : l.length * 64 ≤ 140737488351232) (hr2 : ∀ x ∈ l, x.rows.length * 24 ≤ 140737488351232) (B : Nat) (hB : B ≤ w.heap.size) :
    Calls Tryz.prog 27 #[.slice a n cap] w fun e w' => ∃ v, e = .returned v ∧ OwnRd w' w.heap.size 57 (fdTabN B) 6 v l ∧ Below w.heap.size w w' := by
  subst hn
  have hu := Tryz.underlying57
  go_enter Tryz.func27, Tryz.ntmps27
  go_wp2_with fail
  go_loopw [3, 4] (fun v i wr => ∃ k : Nat, k ≤ l.length ∧ i = .int .i64 k ∧ OwnRd wr w.heap.size 57 (fdTabN B) 6 v (l.take k) ∧ Below w.heap.size w wr) (fun _ i _ => l.length - (intOf i).toNat)
  case atStart => exact ⟨0, Nat.zero_le _, rfl, OwnRd.nil _ _ _ _ _, Below.refl _ _⟩
  case round =>
    obtain ⟨k, hk, rfl, hown, hbel⟩ := hrel
    by_cases hlt : k < l.length
    · obtain ⟨b, o, rfl, hb, cs, hcl, hrd, hrg⟩ := SlRd.at (hs.keep last_rdTab hbel) (by decide) hlt
      have c := copyTab_anyN l[k] wr cs.toArray hrd (hr2 _ (List.getElem_mem hlt)) B (Nat.le_trans hB hbel.size)
      have hsz : (Tryz.prog.info? 57).map (·.size) = some cs.length := by rw [hcl]; exact tab_size
      go_wp2_with (refine wpList_load_mid rfl 57 (.tmp 14) rfl b (o + k * 6) rfl cs _ hrg hu rfl hsz ?_)
      with_reducible refine c.mono ?_
      rintro e w1 ⟨C, rfl, hfd, hb1⟩
      have hC : C.size = 6 := by have := fdTab_size hfd; rwa [Array.length_toList] at this
      have hC1 := fdTab_one hfd
      obtain ⟨nb, -, hbn⟩ := box1 w1 C 57
      have hfd2 := (last_fdTabN B) _ _ _ _ hfd hbn
      have hown2 := (hown.keep (last_fdTabN B) hb1).keep (last_fdTabN B) hbn
      have hbel2 := bstep (bstep hbel hb1 (Nat.le_refl _)) hbn (Nat.le_refl _)
      have hfold := fold_set zeroTabD C 6 hC rfl
      clear hown hbel hb1 hrg hrd hfd hbn c
      go_wp2_with (first | (at_builtin; go_loud (refine wpList_append_rd (last_fdTabN B) tabs_ty (l.take k) l[k] hown2 hbel2 (Nat.le_refl _) (by simp; omega) hfd2 hC hC1 (apt_fdTabN B (by decide)) ?_ (hx := by rw [World.size_alloc]; rfl))) | (refine wpList_newS (Z := zeroTabD) (cs := C) 57 (.tmp 5) (.tmp 16) (by rw [hC]; exact tab_zero) (by rw [hC]; rfl) hC1 ?_) | (refine wpList_loadS nb 57 (.tmp 5) hu (by rw [hC]; exact tab_size) ?_))
      intro v' w3 hown3 hb3 hg3
      clear hown2 hbel2 nb
      go_wp2_with fail
      go_roundw
      case rel => exact ⟨k + 1, by omega, by go_num, hown3, hb3⟩
      case measure => simp [intOf]; omega
    · have : k = l.length := by omega
      subst this
      rw [List.take_length] at hown
      obtain ⟨a2, c2, rfl, -⟩ := hown.shape
      go_wp2_with fail
      go_ret
      exact ⟨_, rfl, hown, hbel⟩

end Go.Proofs.YtampdbkafkcfdaaGreatDoor

namespace Go.Proofs.YtampdbkafkcfdaaGreatDoor
set_option linter.unusedVariables false
open Go.RowKit

set_option maxRecDepth 100000 in
set_option maxHeartbeats 4000000 in
theorem nstations_any (x : StaD) (w : World) (cs : Array Value) (hx : rdSta w x cs.toList) (hr : x.names.length * 16 ≤ 140737488355328) :
    Calls Tryz.prog 22 #[.agg cs] w fun e w' => ∃ C : Array Value, e = .returned (.agg C) ∧ fdSta w' x C.toList ∧ Below w.heap.size w w' := by
  obtain ⟨a, cap, ecs, hs⟩ := hx
  obtain rfl : cs = x.cells (.slice a x.names.length cap) := Array.toList_inj.1 ecs
  clear ecs
  have e0 := StaD.cells_size x (.slice a x.names.length cap)
  have e2 := StaD.cells_to x (.slice a x.names.length cap)
  have ES := Lib.hid (StaD.cells_set x (.slice a x.names.length cap))
  have EO := Lib.hid (StaD.cells_one x)
  have EZ := Lib.hid (StaD.cells_size x)
  have e3 : ∀ h, (x.cells (.slice a x.names.length cap))[2]'h = .slice a x.names.length cap := fun _ => rfl
  have c := fun W hW => cloneTx_any x.names x.names.length rfl a cap W hW hr
  generalize x.cells (.slice a x.names.length cap) = C at *
  obtain ⟨zb, zz, hbz⟩ := box2 w C zeroStaD 28 28
  have hu := Tryz.underlying28
  have hb3 := hbz.2
  go_enter Tryz.func22, Tryz.ntmps22
  go_wp2_with fail
  with_reducible refine (c _ (hs.keep hb3 (Nat.le_refl _))).mono ?_
  rintro e w1 ⟨v, rfl, ho, hb⟩
  obtain ⟨a2, c2, rfl, -⟩ := ho.shape
  have hb4 := bstep hb3 hb (Nat.le_refl _)
  have t3 := zb.keep hb (Nat.le_refl _)
  have t2 := zz.keep hb (Nat.le_refl _)
  have T3 := Lib.hid ((t3.put 2 (.slice a2 x.names.length c2)))
  have T2 := Lib.hid (t2.other (a := ⟨w.heap.size, 2, none⟩) (show w.heap.size ≠ w.heap.size + 1 by omega) (.slice a2 x.names.length c2))
  rw [ES.out] at T3
  have f0 := t3.cell 2 _ e2
  have f1 := t3.free 2
  have q0 := EZ.out (.slice a2 x.names.length c2)
  have q1 := EO.out a2 x.names.length c2
  have HO := Lib.hid ho
  have HB4 := Lib.hid hb4
  have HSZ := Lib.hid hb.size
  generalize hD : x.cells (.slice a2 x.names.length c2) = D at *
  have HD := Lib.hid hD
  clear hD
  clear t3 t2 hb hb3 hb4 c zb zz hbz hs ho
  go_wp2_with (first | (refine wpList_loadS T3.out 28 (.tmp 1) hu (by rw [q0]; exact sta_size) ?_) | (refine wpList_storeS T2.out 28 (.tmp 2) (.tmp 7) (by rw [q0]; exact sta_size) (by rw [q0]; rfl) q1 ?_))
  have hrun := run_loadS (T2.out.row D) 28 _ hu rfl (by rw [q0]; exact sta_size)
  have hb5 := HB4.out
  have hz : w.heap.size + 1 + 1 ≤ w1.heap.size := Nat.le_trans (by simp) HSZ.out
  refine bodyPost_ret (v := .agg D) (by simp [results, Tryz.results22, Act.put, asAddr, hrun]) rfl ⟨D, rfl, ⟨_, by rw [← HD.out], ?_⟩, ?_⟩
  · refine Owns.ofBlock (HO.out.fromBase (Nat.zero_le _)) fun k hk => ?_
    have hk2 : w.heap.size + 1 + 1 ≤ k := Nat.le_trans (by simp) (HO.out.lt k hk).1
    rw [heap_setRow_other _ _ _ _ (show k ≠ w.heap.size + 1 by omega)]
    exact Below.heap_setCell _ _ _ _ (by show k ≠ w.heap.size; omega)
  · exact below_row (hb5.setCell (by show w.heap.size ≤ w.heap.size; omega) _) (by omega) _

set_option maxRecDepth 100000 in
set_option maxHeartbeats 4000000 in
theorem ntable_any (x : TabD) (w : World) (cs : Array Value) (hx : rdTab w x cs.toList) (hr : x.rows.length * 24 ≤ 140737488355328) :
    Calls Tryz.prog 24 #[.agg cs] w fun e w' => ∃ C : Array Value, e = .returned (.agg C) ∧ fdTab w' x C.toList ∧ Below w.heap.size w w' := by
  obtain ⟨a, cap, ecs, hs⟩ := hx
  obtain rfl : cs = x.cells (.slice a x.rows.length cap) := Array.toList_inj.1 ecs
  clear ecs
  have e0 := TabD.cells_size x (.slice a x.rows.length cap)
  have e2 := TabD.cells_to x (.slice a x.rows.length cap)
  have ES := Lib.hid (TabD.cells_set x (.slice a x.rows.length cap))
  have EO := Lib.hid (TabD.cells_one x)
  have EZ := Lib.hid (TabD.cells_size x)
  have e3 : ∀ h, (x.cells (.slice a x.rows.length cap))[5]'h = .slice a x.rows.length cap := fun _ => rfl
  have c := fun W hW => cloneRw_any x.rows x.rows.length rfl a cap W hW hr
  generalize x.cells (.slice a x.rows.length cap) = C at *
  obtain ⟨zb, zz, hbz⟩ := box2 w C zeroTabD 57 57
  have hu := Tryz.underlying57
  have hb3 := hbz.2
  go_enter Tryz.func24, Tryz.ntmps24
  go_wp2_with fail
  with_reducible refine (c _ (hs.keep hb3 (Nat.le_refl _))).mono ?_
  rintro e w1 ⟨v, rfl, ho, hb⟩
  obtain ⟨a2, c2, rfl, -⟩ := ho.shape
  have hb4 := bstep hb3 hb (Nat.le_refl _)
  have t3 := zb.keep hb (Nat.le_refl _)
  have t2 := zz.keep hb (Nat.le_refl _)
  have T3 := Lib.hid ((t3.put 5 (.slice a2 x.rows.length c2)))
  have T2 := Lib.hid (t2.other (a := ⟨w.heap.size, 5, none⟩) (show w.heap.size ≠ w.heap.size + 1 by omega) (.slice a2 x.rows.length c2))
  rw [ES.out] at T3
  have f0 := t3.cell 5 _ e2
  have f1 := t3.free 5
  have q0 := EZ.out (.slice a2 x.rows.length c2)
  have q1 := EO.out a2 x.rows.length c2
  have HO := Lib.hid ho
  have HB4 := Lib.hid hb4
  have HSZ := Lib.hid hb.size
  generalize hD : x.cells (.slice a2 x.rows.length c2) = D at *
  have HD := Lib.hid hD
  clear hD
  clear t3 t2 hb hb3 hb4 c zb zz hbz hs ho
  go_wp2_with (first | (refine wpList_loadS T3.out 57 (.tmp 1) hu (by rw [q0]; exact tab_size) ?_) | (refine wpList_storeS T2.out 57 (.tmp 2) (.tmp 7) (by rw [q0]; exact tab_size) (by rw [q0]; rfl) q1 ?_))
  have hrun := run_loadS (T2.out.row D) 57 _ hu rfl (by rw [q0]; exact tab_size)
  have hb5 := HB4.out
  have hz : w.heap.size + 1 + 1 ≤ w1.heap.size := Nat.le_trans (by simp) HSZ.out
  refine bodyPost_ret (v := .agg D) (by simp [results, Tryz.results24, Act.put, asAddr, hrun]) rfl ⟨D, rfl, ⟨_, by rw [← HD.out], ?_⟩, ?_⟩
  · refine Owns.ofBlock (HO.out.fromBase (Nat.zero_le _)) fun k hk => ?_
    have hk2 : w.heap.size + 1 + 1 ≤ k := Nat.le_trans (by simp) (HO.out.lt k hk).1
    rw [heap_setRow_other _ _ _ _ (show k ≠ w.heap.size + 1 by omega)]
    exact Below.heap_setCell _ _ _ _ (by show k ≠ w.heap.size; omega)
  · exact below_row (hb5.setCell (by show w.heap.size ≤ w.heap.size; omega) _) (by omega) _

end Go.Proofs.YtampdbkafkcfdaaGreatDoor

namespace Go.Proofs.YtampdbkafkcfdaaGreatDoor
set_option linter.unusedVariables false
open Go.RowKit

/-- a database whose lists are bounded -/
structure DbFit (d : DbD) : Prop where
  nn : d.sta.names.length ≤ 4000000
  mm : d.msgs.length ≤ 4000000
  ms : ∀ m ∈ d.msgs, m.sigs.length ≤ 4000000 ∧ ∀ s ∈ m.sigs, s.rs.length ≤ 4000000
  tt : d.tabs.length ≤ 4000000
  ts : ∀ t ∈ d.tabs, t.rows.length ≤ 4000000

theorem DbD.cells_size (d : DbD) (u v z : Value) : (d.cells u v z).size = 9 := rfl
theorem DbD.cells_one (d : DbD) (a b c : Option Addr) (n1 n2 n3 c1 c2 c3 : Nat) : (d.cells (.slice a n1 c1) (.slice b n2 c2) (.slice c n3 c3)).all (·.oneCell') = true := by unfold DbD.cells; simp [Value.oneCell']
theorem DbD.cells_set7 (d : DbD) (u v z y : Value) : (d.cells u v z).setIfInBounds 7 y = d.cells u y z := rfl
theorem DbD.cells_set8 (d : DbD) (u v z y : Value) : (d.cells u v z).setIfInBounds 8 y = d.cells u v y := rfl
theorem DbD.cells_set6 (d : DbD) (u v z y : Value) : (((d.cells u v z).setIfInBounds 4 (.int .i64 d.sta.line)).setIfInBounds 5 (.int .i64 d.sta.col)).setIfInBounds 6 y = d.cells y v z := rfl
theorem DbD.cells_4 (d : DbD) (u v z : Value) : (d.cells u v z)[4]? = some (.int .i64 d.sta.line) := rfl
theorem DbD.cells_5 (d : DbD) (u v z : Value) : (d.cells u v z)[5]? = some (.int .i64 d.sta.col) := rfl
theorem DbD.cells_6 (d : DbD) (u v z : Value) : (d.cells u v z)[6]? = some u := rfl
theorem DbD.cells_7 (d : DbD) (u v z : Value) : (d.cells u v z)[7]? = some v := rfl
theorem DbD.cells_8 (d : DbD) (u v z : Value) : (d.cells u v z)[8]? = some z := rfl
abbrev zeroDb : Array Value := #[.bool false, .int .i64 0, .int .i64 0, .string ⟨#[]⟩, .int .i64 0, .int .i64 0, .slice none 0 0, .slice none 0 0, .slice none 0 0]
theorem db_zero : (Tryz.prog.info? 32).map (fun i => (i.zero, i.size)) = some (some (.agg zeroDb), 9) := by kernel_rfl
theorem db_size : (Tryz.prog.info? 32).map (·.size) = some 9 := by kernel_rfl
theorem Blk.kindAt {w w' : World} {k : Nat} {C : Array Value} {T : TypeId} (h : w.heap[k]? = some (.cells C T)) (hb : Below w.heap.size w w') : w'.heap[k]? = some (.cells C T) := by
  rw [hb.block k (Array.getElem?_eq_some_iff.1 h).1]; exact h

theorem setCell_at {w : World} {k : Nat} {C : Array Value} {T : TypeId} (h : w.heap[k]? = some (.cells C T)) (j : Nat) (v : Value) : (w.setCell ⟨k, j, none⟩ v).heap[k]? = some (.cells (C.setIfInBounds j v) T) := by
  simp [World.setCell, Array.getElem?_modify, h]
theorem below_set {B : Nat} {a w : World} (h : Below B a w) {k : Nat} (hk : B ≤ k) (j : Nat) (v : Value) : Below B a (w.setCell ⟨k, j, none⟩ v) := h.setCell (by show B ≤ k; exact hk) v
theorem setCell_ne {w : World} {k g : Nat} {o : Option Obj} (h : w.heap[g]? = o) (hk : g ≠ k) (j : Nat) (v : Value) : (w.setCell ⟨k, j, none⟩ v).heap[g]? = o := (Below.heap_setCell _ _ _ _ hk).trans h
theorem Owns.setAt {α : Type} {w : World} {base : Nat} {e T : TypeId} {size : Nat} {en : α → List Value} {u : Value} {xs : List α} (h : Owns w base e size en u xs) {k : Nat} {C : Array Value} (hk : w.heap[k]? = some (.cells C T)) (he : e ≠ T) (j : Nat) (v : Value) : Owns (w.setCell ⟨k, j, none⟩ v) base e size en u xs :=
  h.apt he hk (fun b _ hne => Below.heap_setCell _ _ _ _ hne)
theorem OwnRd.setAt {α : Type} {rd : World → α → List Value → Prop} {w : World} {base : Nat} {e T : TypeId} {size : Nat} {u : Value} {xs : List α} (h : OwnRd w base e rd size u xs) {k : Nat} {C : Array Value} (hk : w.heap[k]? = some (.cells C T)) (he : e ≠ T) (ha : Apt rd T) (j : Nat) (v : Value) : OwnRd (w.setCell ⟨k, j, none⟩ v) base e rd size u xs :=
  h.apt he ha hk (by simp [World.setCell]) (fun b _ hne => Below.heap_setCell _ _ _ _ hne)

set_option maxRecDepth 100000 in
set_option maxHeartbeats 8000000 in
theorem copyDb_anyN (x : DbD) (hf : DbFit x) (w : World) (cs : Array Value) (hx : rdDb w x cs.toList) (B : Nat) (hB : B ≤ w.heap.size) :
    Calls Tryz.prog 11 #[.agg cs] w fun e w' => ∃ C : Array Value, e = .returned (.agg C) ∧ (fdDbN B) w' x C.toList ∧ Below w.heap.size w w' := by
  obtain ⟨a, cap, b, cb, c, cc, ecs, hs, hm, ht⟩ := hx
  obtain rfl : cs = x.cells (.slice a x.sta.names.length cap) (.slice b x.msgs.length cb) (.slice c x.tabs.length cc) := Array.toList_inj.1 ecs
  clear ecs
  have C1 := Lib.hid (fun W (hb : Below w.heap.size w W) => copyMsgs_anyN x.msgs x.msgs.length rfl b cb W (hm.keep last_rdMsg hb) (by have := hf.mm; omega) (fun m h => ⟨by have := (hf.ms m h).1; omega, fun s hs => by have := (hf.ms m h).2 s hs; omega⟩) B (Nat.le_trans hB hb.size))
  have C2 := Lib.hid (fun W (hb : Below w.heap.size w W) => copyTabs_anyN x.tabs x.tabs.length rfl c cc W (ht.keep last_rdTab hb) (by have := hf.tt; omega) (fun t h => by have := hf.ts t h; omega) B (Nat.le_trans hB hb.size))
  have C3 := Lib.hid (fun W (hb : Below w.heap.size w W) => copySta_anyN x.sta W #[.int .i64 x.sta.line, .int .i64 x.sta.col, .slice a x.sta.names.length cap] ⟨a, cap, rfl, hs.keep hb (Nat.le_refl _)⟩ (by have := hf.nn; omega) B (Nat.le_trans hB hb.size))
  clear hs hm ht
  obtain ⟨n1, hn1⟩ : ∃ n, x.sta.names.length = n := ⟨_, rfl⟩
  obtain ⟨n2, hn2⟩ : ∃ n, x.msgs.length = n := ⟨_, rfl⟩
  obtain ⟨n3, hn3⟩ : ∃ n, x.tabs.length = n := ⟨_, rfl⟩
  rw [hn1] at C3
  rw [hn2] at C1
  rw [hn3] at C2
  rw [hn1, hn2, hn3]
  have HN1 := Lib.hid hn1
  have HN2 := Lib.hid hn2
  have HN3 := Lib.hid hn3
  clear hn1 hn2 hn3
  have E7 := Lib.hid (DbD.cells_set7 x)
  have E8 := Lib.hid (DbD.cells_set8 x)
  have E6 := Lib.hid (DbD.cells_set6 x)
  have EO := Lib.hid (DbD.cells_one x)
  have EZ := Lib.hid (DbD.cells_size x)
  have G4 := Lib.hid (DbD.cells_4 x)
  have G5 := Lib.hid (DbD.cells_5 x)
  have G6 := Lib.hid (DbD.cells_6 x)
  have G7 := Lib.hid (DbD.cells_7 x)
  have G8 := Lib.hid (DbD.cells_8 x)
  have HF : Hid (∀ w' u v z, Owns w' B 9 1 enTx u x.sta.names → OwnRd w' B 46 (fdMsgN B) 8 v x.msgs → OwnRd w' B 57 (fdTabN B) 6 z x.tabs → (fdDbN B) w' x (x.cells u v z).toList) := Lib.hid (fun w' u v z h1 h2 h3 => ⟨u, v, z, rfl, h1, h2, h3⟩)
  have HST : Hid (∀ w' (D : Array Value), (fdStaN B) w' x.sta D.toList → ∃ v, D = #[.int .i64 x.sta.line, .int .i64 x.sta.col, v] ∧ Owns w' B 9 1 enTx v x.sta.names) := Lib.hid (fun w' D ⟨v, h1, h2⟩ => ⟨v, Array.toList_inj.1 h1, h2⟩)
  generalize x.cells = F at *
  have e0 := EZ.out (.slice a n1 cap) (.slice b n2 cb) (.slice c n3 cc)
  have e1 := EO.out a b c n1 n2 n3 cap cb cc
  have k4 := G4.out (.slice a n1 cap) (.slice b n2 cb) (.slice c n3 cc)
  have k5 := G5.out (.slice a n1 cap) (.slice b n2 cb) (.slice c n3 cc)
  have k6 := G6.out (.slice a n1 cap) (.slice b n2 cb) (.slice c n3 cc)
  have k7 := G7.out (.slice a n1 cap) (.slice b n2 cb) (.slice c n3 cc)
  have k8 := G8.out (.slice a n1 cap) (.slice b n2 cb) (.slice c n3 cc)
  have E7' := Lib.hid (E7.out (.slice a n1 cap) (.slice b n2 cb) (.slice c n3 cc))
  generalize hC : F (.slice a n1 cap) (.slice b n2 cb) (.slice c n3 cc) = C at *
  have HC := Lib.hid hC
  clear hC
  obtain ⟨zb, zz, hz2, hbz⟩ := box2 w C zeroDb 32 32
  have hu := Tryz.underlying32
  have hb3 : Below w.heap.size w (((w.alloc (.cells C 32)).alloc (.cells zeroDb 32)).alloc (.cells C 32)) := hbz.alloc (by simp; omega) _
  have HB3 := Lib.hid hb3
  have K2 := Lib.hid (show (((w.alloc (.cells C 32)).alloc (.cells zeroDb 32)).alloc (.cells C 32)).heap[w.heap.size + 1]? = some (.cells zeroDb 32) by rw [Below.heap_alloc _ _ _ (by simp)]; simpa using heap_alloc_new (w.alloc (.cells C 32)) (.cells zeroDb 32))
  have K3 := Lib.hid (show (((w.alloc (.cells C 32)).alloc (.cells zeroDb 32)).alloc (.cells C 32)).heap[w.heap.size + 1 + 1]? = some (.cells C 32) by simpa using heap_alloc_new ((w.alloc (.cells C 32)).alloc (.cells zeroDb 32)) (.cells C 32))
  have Z1 := Lib.hid (zb.alloc (.cells C 32))
  have K1 := k7
  have K7 := Lib.hid (show C[7]? = some (.slice b n2 cb) from k7)
  have g7 : ∀ h, C[7]'h = .slice b n2 cb := fun h => by have := k7; rw [Array.getElem?_eq_getElem h] at this; exact Option.some.inj this
  generalize x.sta.line = SL at *
  generalize x.sta.col = SC at *
  generalize x.sta = XS at *
  go_enter Tryz.func11, Tryz.ntmps11
  go_wp2_with (first | (refine wpList_loadS zb 32 (.tmp 1) hu (by rw [e0]; exact db_size) ?_) | (refine wpList_newS (Z := zeroDb) (cs := C) 32 (.tmp 3) (.tmp 4) (by rw [e0]; exact db_zero) (by rw [e0]; rfl) e1 ?_))
  with_reducible refine (C1.out _ hb3).mono ?_
  rintro e w1 ⟨v, rfl, ho, hb⟩
  clear hb3 zb zz hz2 hbz
  have hb1 := bstep HB3.out hb (Nat.le_refl _)
  obtain ⟨a2, c2, hv, -⟩ := ho.shape
  rw [HN2.out] at hv
  subst hv
  have z1 := Z1.out.keep hb (Nat.le_refl _)
  have k2 := Blk.kindAt K2.out hb
  have k3 := Blk.kindAt K3.out hb
  have f0 := cell_of_row w1 (w.heap.size + 1 + 1) 7 C 32 (0, 0) k3
  rw [K7.out] at f0
  have f1 : w1.frozen? ⟨w.heap.size + 1 + 1, 7, none⟩ = false := Blk.free ⟨_, k3⟩ 7
  have g8 := z1.cell 8 _ k8
  have HO := Lib.hid ho
  have HB1 := Lib.hid hb1
  have HZ1 := Lib.hid z1
  have HK2 := Lib.hid k2
  have HK3 := Lib.hid k3
  clear hb hb1 z1 k2 k3 ho g7 k7
  go_wp2_with fail
  have hb2 : Below w.heap.size w (w1.setCell ⟨w.heap.size + 2, 7, none⟩ (.slice a2 n2 c2)) := HB1.out.setCell (by show w.heap.size ≤ w.heap.size + 2; omega) _
  with_reducible refine (C2.out _ hb2).mono ?_
  rintro e w2 ⟨v, rfl, ho, hb⟩
  have HB2 := Lib.hid (bstep hb2 hb (Nat.le_refl _))
  have HS2 := Lib.hid (Nat.le_trans hB hb2.size)
  have z1 := (HZ1.out.other (a := ⟨w.heap.size + 2, 7, none⟩) (show w.heap.size + 2 ≠ w.heap.size by omega) (.slice a2 n2 c2)).keep hb (Nat.le_refl _)
  have k2 := Blk.kindAt (setCell_ne HK2.out (show w.heap.size + 1 ≠ w.heap.size + 2 by omega) 7 (.slice a2 n2 c2)) hb
  have k3 := Blk.kindAt (setCell_at HK3.out 7 (.slice a2 n2 c2)) hb
  have HM := Lib.hid (((HO.out.setAt HK3.out (by decide) (apt_fdMsgN B (by decide) (by decide)) 7 (.slice a2 n2 c2)).keep (last_fdMsgN B) hb).fromBase (Nat.le_trans hB HB3.out.size))
  rw [E7'.out] at k3
  obtain ⟨a3, c3, hv, -⟩ := ho.shape
  rw [HN3.out] at hv
  subst hv
  have f0 := cell_of_row w2 (w.heap.size + 2) 8 _ 32 (0, 0) k3
  rw [G8.out] at f0
  have f1 : w2.frozen? ⟨w.heap.size + 2, 8, none⟩ = false := Blk.free ⟨_, k3⟩ 8
  have g4 := z1.cell 4 _ k4
  have g5 := z1.cell 5 _ k5
  have g6 := z1.cell 6 _ k6
  have HOT := Lib.hid ho
  have HZ2 := Lib.hid z1
  have HK2' := Lib.hid k2
  have HK3' := Lib.hid k3
  clear hb hb2 z1 k2 k3 ho g8 HK2 HK3 HO HZ1 HB1
  generalize w1.setCell ⟨w.heap.size + 2, 7, none⟩ (.slice a2 n2 c2) = w1' at *
  go_wp2_with fail
  have hb2 : Below w.heap.size w (w2.setCell ⟨w.heap.size + 2, 8, none⟩ (.slice a3 n3 c3)) := HB2.out.setCell (by show w.heap.size ≤ w.heap.size + 2; omega) _
  with_reducible refine (C3.out _ hb2).mono ?_
  rintro e w3 ⟨D, rfl, hfd, hb⟩
  have HB3' := Lib.hid (bstep hb2 hb (Nat.le_refl _))
  obtain ⟨v, rfl, ho⟩ := HST.out _ _ hfd
  obtain ⟨a4, c4, hv, -⟩ := ho.shape
  rw [HN1.out] at hv
  subst hv
  have k2 := Blk.kindAt (setCell_ne HK2'.out (show w.heap.size + 1 ≠ w.heap.size + 2 by omega) 8 (.slice a3 n3 c3)) hb
  have k3 := Blk.kindAt (setCell_at HK3'.out 8 (.slice a3 n3 c3)) hb
  rw [E8.out] at k3
  have hm := (HM.out.setAt HK3'.out (by decide) (apt_fdMsgN B (by decide) (by decide)) 8 (.slice a3 n3 c3)).keep (last_fdMsgN B) hb
  have ht := ((HOT.out.setAt HK3'.out (by decide) (apt_fdTabN B (by decide)) 8 (.slice a3 n3 c3)).keep (last_fdTabN B) hb).fromBase HS2.out
  have f4 := cell_of_row w3 (w.heap.size + 2) 4 _ 32 (0, 0) k3
  rw [G4.out] at f4
  have f5 := cell_of_row w3 (w.heap.size + 2) 5 _ 32 (0, 0) k3
  rw [G5.out] at f5
  have f6 := cell_of_row w3 (w.heap.size + 2) 6 _ 32 (0, 0) k3
  rw [G6.out] at f6
  have f4f : w3.frozen? ⟨w.heap.size + 2, 4, none⟩ = false := Blk.free ⟨_, k3⟩ 4
  have f5f : w3.frozen? ⟨w.heap.size + 2, 5, none⟩ = false := Blk.free ⟨_, k3⟩ 5
  have f6f : w3.frozen? ⟨w.heap.size + 2, 6, none⟩ = false := Blk.free ⟨_, k3⟩ 6
  have j3 := setCell_at (setCell_at (setCell_at k3 4 (.int .i64 SL)) 5 (.int .i64 SC)) 6 (.slice a4 n1 c4)
  have j2 := setCell_ne (setCell_ne (setCell_ne k2 (show w.heap.size + 1 ≠ w.heap.size + 2 by omega) 4 (.int .i64 SL)) (show w.heap.size + 1 ≠ w.heap.size + 2 by omega) 5 (.int .i64 SC)) (show w.heap.size + 1 ≠ w.heap.size + 2 by omega) 6 (.slice a4 n1 c4)
  rw [E6.out] at j3
  have hm' := ((hm.setAt k3 (by decide) (apt_fdMsgN B (by decide) (by decide)) 4 (.int .i64 SL)).setAt (setCell_at k3 4 (.int .i64 SL)) (by decide) (apt_fdMsgN B (by decide) (by decide)) 5 (.int .i64 SC)).setAt (setCell_at (setCell_at k3 4 (.int .i64 SL)) 5 (.int .i64 SC)) (by decide) (apt_fdMsgN B (by decide) (by decide)) 6 (.slice a4 n1 c4)
  have ht' := ((ht.setAt k3 (by decide) (apt_fdTabN B (by decide)) 4 (.int .i64 SL)).setAt (setCell_at k3 4 (.int .i64 SL)) (by decide) (apt_fdTabN B (by decide)) 5 (.int .i64 SC)).setAt (setCell_at (setCell_at k3 4 (.int .i64 SL)) 5 (.int .i64 SC)) (by decide) (apt_fdTabN B (by decide)) 6 (.slice a4 n1 c4)
  have ho' := ((ho.setAt k3 (by decide) 4 (.int .i64 SL)).setAt (setCell_at k3 4 (.int .i64 SL)) (by decide) 5 (.int .i64 SC)).setAt (setCell_at (setCell_at k3 4 (.int .i64 SL)) 5 (.int .i64 SC)) (by decide) 6 (.slice a4 n1 c4)
  have hb5 := below_set (below_set (below_set HB3'.out (show w.heap.size ≤ w.heap.size + 2 by omega) 4 (.int .i64 SL)) (show w.heap.size ≤ w.heap.size + 2 by omega) 5 (.int .i64 SC)) (show w.heap.size ≤ w.heap.size + 2 by omega) 6 (.slice a4 n1 c4)
  have HM' := Lib.hid hm'
  have HT' := Lib.hid ht'
  have HO' := Lib.hid ho'
  have J3 : Hid (Blk _ (w.heap.size + 2) _) := Lib.hid ⟨_, j3⟩
  have J2 : Hid (Blk _ (w.heap.size + 1) _) := Lib.hid ⟨_, j2⟩
  have HB5 := Lib.hid hb5
  have K2T := Lib.hid j2
  have q0 := EZ.out (.slice a4 n1 c4) (.slice a2 n2 c2) (.slice a3 n3 c3)
  have q1 := EO.out a4 a2 a3 n1 n2 n3 c4 c2 c3
  clear hm' ht' ho' hb5 j3 j2 hm ht ho hb hb2 k2 k3 hfd g4 g5 g6
  generalize hD : F (.slice a4 n1 c4) (.slice a2 n2 c2) (.slice a3 n3 c3) = D at *
  have HD := Lib.hid hD
  clear hD
  go_wp2_with (first | (refine wpList_loadS J3.out 32 (.tmp 3) hu (by rw [q0]; exact db_size) ?_) | (refine wpList_storeS J2.out 32 (.tmp 2) (.tmp 17) (by rw [q0]; exact db_size) (by rw [q0]; rfl) q1 ?_))
  have hrun := run_loadS (J2.out.row D) 32 _ hu rfl (by rw [q0]; exact db_size)
  have hb6 := below_row HB5.out (show w.heap.size ≤ w.heap.size + 1 by omega) D
  refine bodyPost_ret (v := .agg D) (by simp [results, Tryz.results11, Act.put, asAddr, hrun]) rfl ⟨D, rfl, ?_, hb6⟩
  rw [← HD.out]
  refine HF.out _ _ _ _ ?_ ?_ ?_
  · exact Owns.apt HO'.out (by decide) K2T.out (fun b _ hne => heap_setRow_other _ _ _ _ hne)
  · exact OwnRd.apt HM'.out (by decide) (apt_fdMsgN B (by decide) (by decide)) K2T.out (by simp [World.setRow]) (fun b _ hne => heap_setRow_other _ _ _ _ hne)
  · exact OwnRd.apt HT'.out (by decide) (apt_fdTabN B (by decide)) K2T.out (by simp [World.setRow]) (fun b _ hne => heap_setRow_other _ _ _ _ hne)
theorem copyDb_any (x : DbD) (hf : DbFit x) (w : World) (cs : Array Value) (hx : rdDb w x cs.toList) :
    Calls Tryz.prog 11 #[.agg cs] w fun e w' => ∃ C : Array Value, e = .returned (.agg C) ∧ fdDb w' x C.toList ∧ Below w.heap.size w w' := copyDb_anyN x hf w cs hx 0 (Nat.zero_le _)
end Go.Proofs.YtampdbkafkcfdaaGreatDoor

namespace Go.Proofs.YtampdbkafkcfdaaGreatDoor
set_option linter.unusedVariables false
open Go.RowKit

theorem flatMap_set_cell {n : Nat} : ∀ (rows : List (Row n)) (k j : Nat) (hk : k < rows.length) (hj : j < n) (v : Value) (r : Row n), r.1 = rows[k].1.set j v → (rows.set k r).flatMap Row.en = (rows.flatMap Row.en).set (k * n + j) v
  | x :: rows, 0, j, hk, hj, v, r, hr => by
    show r.1 ++ rows.flatMap Row.en = (x.1 ++ rows.flatMap Row.en).set (0 * n + j) v
    rw [hr, Nat.zero_mul, Nat.zero_add, List.set_append_left _ _ (by rw [x.2]; exact hj)]
    rfl
  | x :: rows, k + 1, j, hk, hj, v, r, hr => by
    show x.1 ++ (rows.set k r).flatMap Row.en = (x.1 ++ rows.flatMap Row.en).set ((k + 1) * n + j) v
    rw [flatMap_set_cell rows k j (by simpa using hk) hj v r hr, List.set_append_right _ _ (by rw [x.2, Nat.add_mul]; omega), x.2]
    congr 1
    congr 1
    rw [Nat.add_mul]; omega
theorem Owns.setCellRow {w : World} {base : Nat} {e : TypeId} {n : Nat} {g m cap : Nat} {rows : List (Row n)} (h : Owns w base e n Row.en (.slice (some ⟨g, 0, none⟩) m cap) rows) {k j : Nat} (hk : k < rows.length) (hj : j < n) (v : Value) (r : Row n) (hr : r.1 = rows[k].1.set j v) :
    Owns (w.setCell ⟨g, k * n + j, none⟩ v) base e n Row.en (.slice (some ⟨g, 0, none⟩) m cap) (rows.set k r) := by
  unfold Owns
  rw [flatMap_set_cell rows k j hk hj v r hr, List.length_set]
  have hle : (k + 1) * n ≤ rows.length * n := Nat.mul_le_mul_right _ (by omega)
  rw [Nat.add_mul] at hle
  exact ownsRow_setRow (k * n + j) [v] h (by rw [flatMap_length Row.en_len]; simp; omega)
theorem all2_of {α β : Type} {R : α → β → Prop} : ∀ (xs : List α) (ys : List β), xs.length = ys.length → (∀ j (h1 : j < xs.length) (h2 : j < ys.length), R xs[j] ys[j]) → All2 R xs ys
  | [], [], _, _ => .nil
  | x :: xs, y :: ys, hl, h => .cons (h 0 (by simp) (by simp)) (all2_of xs ys (by simpa using hl) fun j h1 h2 => h (j + 1) (by simpa using h1) (by simpa using h2))
  | [], _ :: _, hl, _ => by simp at hl
  | _ :: _, [], hl, _ => by simp at hl
/-- the signals' rows, the first k of them made anew -/
def MixR (w wr : World) (k : Nat) (xs : List SigX) (rows : List (Row 19)) : Prop := xs.length = rows.length ∧ ∀ j (h1 : j < xs.length) (h2 : j < rows.length), (j < k → fdSig wr xs[j] rows[j].1) ∧ (k ≤ j → rdSig w xs[j] rows[j].1)
theorem MixR.keep {w wr wr' : World} {k : Nat} {xs : List SigX} {rows : List (Row 19)} (h : MixR w wr k xs rows) (hb : Below wr.heap.size wr wr') : MixR w wr' k xs rows :=
  ⟨h.1, fun j h1 h2 => ⟨fun hj => last_fdSig _ _ _ _ ((h.2 j h1 h2).1 hj) hb, (h.2 j h1 h2).2⟩⟩
theorem MixR.next {w wr wr' : World} {k : Nat} {xs : List SigX} {rows : List (Row 19)} (h : MixR w wr k xs rows) (hk : k < rows.length) (hk' : k < xs.length) (r : Row 19) (hr : fdSig wr' xs[k] r.1) (hm : ∀ x cs, fdSig wr x cs → fdSig wr' x cs) : MixR w wr' (k + 1) xs (rows.set k r) := by
  refine ⟨by rw [List.length_set]; exact h.1, fun j h1 h2 => ?_⟩
  rw [List.length_set] at h2
  by_cases hj : k = j
  · subst hj
    refine ⟨fun _ => ?_, fun h3 => by omega⟩
    simpa using hr
  · rw [List.getElem_set_ne hj]
    exact ⟨fun h3 => hm _ _ ((h.2 j h1 h2).1 (by omega)), fun h3 => (h.2 j h1 h2).2 (by omega)⟩
theorem rdSig_oneR {w : World} {x : SigX} {r : Row 19} (h : rdSig w x r.1) : OneR r := by
  obtain ⟨a, cap, e, -⟩ := h
  intro u hu
  unfold Row.en at hu
  rw [e] at hu
  have := SigD.cells_one x.d a x.rs.length cap
  exact (Array.all_eq_true_iff_forall_mem.1 this) u (Array.mem_toList_iff.1 hu)

set_option maxRecDepth 100000 in
set_option maxHeartbeats 8000000 in
theorem nmessage_own (x : MsgD) (w : World) (cs : Array Value) (hx : rdMsg w x cs.toList) (hr : x.sigs.length ≤ 4000000) (hr2 : ∀ s ∈ x.sigs, s.rs.length ≤ 4000000) :
    Calls Tryz.prog 23 #[.agg cs] w fun e w' => ∃ C : Array Value, e = .returned (.agg C) ∧ (∃ v, C.toList = (x.cells v).toList ∧ OwnRd w' w.heap.size 53 fdSig 19 v x.sigs) ∧ Below w.heap.size w w' := by
  obtain ⟨a, cap, ecs, rows, hs, h2⟩ := hx
  obtain rfl : cs = x.cells (.slice a x.sigs.length cap) := Array.toList_inj.1 ecs
  clear ecs
  have hlen := h2.len
  have hone : ∀ r : Row 19, r ∈ rows → OneR r := by
    intro r hr
    obtain ⟨j, hj, rfl⟩ := List.mem_iff_getElem.1 hr
    exact rdSig_oneR (h2.get (by omega) hj)
  have hmix : MixR w w 0 x.sigs rows := ⟨hlen, fun j h3 h4 => ⟨fun h => by omega, fun _ => h2.get h3 h4⟩⟩
  have c := fun W hW => cloneSg_any rows hone x.sigs.length hlen a cap W hW (by omega)
  have e0 := MsgD.cells_size x (.slice a x.sigs.length cap)
  have e2 := MsgD.cells_to x (.slice a x.sigs.length cap)
  have ES := Lib.hid (MsgD.cells_set x (.slice a x.sigs.length cap))
  have EO := Lib.hid (MsgD.cells_one x)
  have EZ := Lib.hid (MsgD.cells_size x)
  have ET := Lib.hid (fun v => MsgD.cells_to x v)
  have HR2 := Lib.hid hr2
  have e3 : ∀ h, (x.cells (.slice a x.sigs.length cap))[7]'h = .slice a x.sigs.length cap := fun _ => rfl
  generalize x.cells (.slice a x.sigs.length cap) = C at *
  obtain ⟨zb, zz, hz2, hbz⟩ := box2 w C zeroMsgD 46 46
  have hu := Tryz.underlying46
  have hb3 := hbz
  have HMIX := Lib.hid hmix
  have HLEN := Lib.hid hlen
  clear hmix hlen h2 hone hr2
  go_enter Tryz.func23, Tryz.ntmps23
  go_wp2_with fail
  with_reducible refine (c _ (hs.keep hb3 (Nat.le_refl _))).mono ?_
  rintro e w1 ⟨v, rfl, ho, hb⟩
  have hosh := ho.shape
  rw [← HLEN.out] at hosh
  obtain ⟨a2, c2, rfl, -⟩ := hosh
  have hb4 := bstep hb3 hb (Nat.le_refl _)
  have t3 := zb.keep hb (Nat.le_refl _)
  have t2 := Blk.kindAt (show ((w.alloc (.cells C 46)).alloc (.cells zeroMsgD 46)).heap[w.heap.size + 1]? = some (.cells zeroMsgD 46) by simpa using heap_alloc_new (w.alloc (.cells C 46)) (.cells zeroMsgD 46)) hb
  have T3 := Lib.hid ((t3.put 7 (.slice a2 x.sigs.length c2)))
  have T2 := Lib.hid (setCell_ne t2 (show w.heap.size + 1 ≠ w.heap.size by omega) 7 (.slice a2 x.sigs.length c2))
  rw [ES.out] at T3
  have f0 := t3.cell 7 _ e2
  have f1 := t3.free 7
  have hbase : w.heap.size + 2 ≤ ((w.alloc (.cells C 46)).alloc (.cells zeroMsgD 46)).heap.size := by simp
  have HO := Lib.hid (show Owns (w1.setCell ⟨w.heap.size, 7, none⟩ (.slice a2 x.sigs.length c2)) (w.heap.size + 2) 53 19 Row.en (.slice a2 x.sigs.length c2) rows from by
    refine Owns.ofBlock (ho.fromBase hbase) fun k hk => ?_
    have hk2 : w.heap.size + 2 ≤ k := Nat.le_trans hbase (ho.lt k hk).1
    exact Below.heap_setCell _ _ _ _ (by show k ≠ w.heap.size; omega))
  have HB4 := Lib.hid (below_set hb4 (Nat.le_refl _) 7 (.slice a2 x.sigs.length c2))
  generalize hCx : x.cells (.slice a2 x.sigs.length c2) = C2 at *
  have f7 := T3.out.cell 7 _ (by rw [← hCx]; exact ET.out _)
  have HC2 := Lib.hid hCx
  have q0 := Lib.hid (show C2.size = 8 by rw [← hCx]; exact EZ.out _)
  have q1 := Lib.hid (show C2.all (·.oneCell') = true by rw [← hCx]; exact EO.out a2 x.sigs.length c2)
  clear hCx t3 t2 hb hb3 hb4 c zb zz hbz hs ho hz2 e0 e2 e3 ET hbase
  generalize hL : x.sigs = L at *
  have HL := Lib.hid hL
  clear hL
  go_wp2_with fail
  clear f0 f1
  generalize w1.setCell ⟨w.heap.size, 7, none⟩ (.slice a2 L.length c2) = w2 at *
  have hSW := Lib.hid (Below.refl w2.heap.size w2)
  go_loopw [11] (fun i wr => ∃ (k : Nat) (rs : List (Row 19)), k ≤ L.length ∧ i = .int .i64 (k : Nat) ∧ MixR w wr k L rs ∧ Owns wr (w.heap.size + 2) 53 19 Row.en (.slice a2 L.length c2) rs ∧ Below w.heap.size w wr ∧ Blk wr w.heap.size C2 ∧ wr.heap[w.heap.size + 1]? = some (.cells zeroMsgD 46)) (fun i _ => L.length - (intOf i).toNat)
  case atStart =>
    refine ⟨0, rows, Nat.zero_le _, rfl, ?_, HO.out, HB4.out, T3.out, T2.out⟩
    exact ⟨HMIX.out.1, fun j h3 h4 => ⟨fun h => by omega, (HMIX.out.2 j h3 h4).2⟩⟩
  case round =>
    clear f7 HO HB4 T3 T2 HMIX HLEN hSW
    obtain ⟨k, rs, hk, rfl, hmix, hown, hbel, t3, t2⟩ := hrel
    have hlr := hmix.1
    have f7 := t3.cell 7 (.slice a2 L.length c2) (by rw [← HC2.out]; rfl)
    by_cases hlt : (k : Int) < L.length
    · have hlt' : k < L.length := by omega
      have hltr : k < rs.length := by omega
      have hbk := hown.block (by omega)
      rw [← hlr] at hbk
      obtain ⟨g, cap', hv, hg1, hg2, hg3, hg4⟩ := hbk
      obtain ⟨rfl, rfl⟩ : a2 = some ⟨g, 0, none⟩ ∧ c2 = cap' := by cases hv; exact ⟨rfl, rfl⟩
      clear hv
      obtain ⟨b', o', e', -, hcell⟩ := SlOf.cells hown.sl.2 Row.en_len (by decide) hltr
      cases e'
      have h18 := hcell 18 (by decide)
      obtain ⟨a', n', er, hsx⟩ := (hmix.2 k hlt' hltr).2 (Nat.le_refl _)
      have hsx2 := hsx.keep hbel (Nat.le_refl _)
      unfold Row.en at h18
      rw [er] at h18
      rw [show ((L[k].d.cells (.slice a' L[k].rs.length n')).toList)[18]? = some (.slice a' L[k].rs.length n') from rfl, Nat.zero_add] at h18
      have hfr := hown.free (k * 19 + 18)
      have cT := fun (W : World) (hW : SlX W a' n' L[k].rs) => cloneTx_any L[k].rs L[k].rs.length rfl a' n' W hW (by have := HR2.out _ (List.getElem_mem hlt'); omega)
      have HK := Lib.hid (⟨hmix, hown, t3, t2, hbel⟩ : MixR w wr k L rs ∧ Owns wr (w.heap.size + 2) 53 19 Row.en (.slice (some ⟨g, 0, none⟩) L.length c2) rs ∧ Blk wr w.heap.size C2 ∧ wr.heap[w.heap.size + 1]? = some (.cells zeroMsgD 46) ∧ Below w.heap.size w wr)
      have HER := Lib.hid er
      have HSX := Lib.hid hsx2
      clear hmix hown t3 t2 hbel er hsx hsx2 hcell
      generalize hy : L[k] = y at *
      have HY := Lib.hid hy
      clear hy
      have hw7 : w.heap.size < wr.heap.size := HK.out.2.2.1.lt
      have HLR := Lib.hid hlr
      clear hlr
      go_wp2_with fail

      refine wp_region_held_drew (S := (fun (w' : World) => w'.cell? ⟨w.heap.size, 7, none⟩ = some (.slice (some ⟨g, 0, none⟩) L.length c2))) (by kernel_rfl) f7 (fun hHeld => ?_)
      refine held_take 0 (v := ?_) rfl (by kernel_rfl) (by kernel_rfl) (by kernel_rfl) (fun _ _ _ h => h) (by assumption) ?_ ?_
      rotate_left
      · first | (refine Or.inr ⟨?_, ?_⟩ <;> rfl) | (refine Or.inl ⟨by rfl, ?_⟩; intro w hSw; (try dsimp only at hSw); first | (go_simp; done) | (go_simp; with_reducible rfl))
      try simp only [Act.put, List.setIfInBounds_toArray, List.set_cons_zero, List.set_cons_succ]
      refine held_take 1 (v := ?_) rfl (by kernel_rfl) (by kernel_rfl) (by kernel_rfl) (fun _ _ _ h => h) (by assumption) ?_ ?_
      rotate_left
      · first | (refine Or.inr ⟨?_, ?_⟩ <;> rfl) | (refine Or.inl ⟨by rfl, ?_⟩; intro w hSw; (try dsimp only at hSw); first | (go_simp; done) | (go_simp; with_reducible rfl))
      try simp only [Act.put, List.setIfInBounds_toArray, List.set_cons_zero, List.set_cons_succ]
      refine held_take 2 (v := ?_) rfl (by kernel_rfl) (by kernel_rfl) (by kernel_rfl) (fun _ _ _ h => h) (by assumption) ?_ ?_
      rotate_left
      · first | (refine Or.inr ⟨?_, ?_⟩ <;> rfl) | (refine Or.inl ⟨by rfl, ?_⟩; intro w hSw; (try dsimp only at hSw); first | (go_simp; done) | (go_simp; with_reducible rfl))
      try simp only [Act.put, List.setIfInBounds_toArray, List.set_cons_zero, List.set_cons_succ]
      refine held_take 3 (v := ?_) rfl (by kernel_rfl) (by kernel_rfl) (by kernel_rfl) (fun _ _ _ h => h) (by assumption) ?_ ?_
      rotate_left
      · first | (refine Or.inr ⟨?_, ?_⟩ <;> rfl) | (refine Or.inl ⟨by rfl, ?_⟩; intro w hSw; (try dsimp only at hSw); first | (go_simp; done) | (go_simp; with_reducible rfl))
      try simp only [Act.put, List.setIfInBounds_toArray, List.set_cons_zero, List.set_cons_succ]
      refine held_take 4 (v := ?_) rfl (by kernel_rfl) (by kernel_rfl) (by kernel_rfl) (fun _ _ _ h => h) (by assumption) ?_ ?_
      rotate_left
      · first | (refine Or.inr ⟨?_, ?_⟩ <;> rfl) | (refine Or.inl ⟨by rfl, ?_⟩; intro w hSw; (try dsimp only at hSw); first | (go_simp; done) | (go_simp; with_reducible rfl))
      try simp only [Act.put, List.setIfInBounds_toArray, List.set_cons_zero, List.set_cons_succ]
      refine held_take 5 (v := ?_) rfl (by kernel_rfl) (by kernel_rfl) (by kernel_rfl) (fun _ _ _ h => h) (by assumption) ?_ ?_
      rotate_left
      · first | (refine Or.inr ⟨?_, ?_⟩ <;> rfl) | (refine Or.inl ⟨by rfl, ?_⟩; intro w hSw; (try dsimp only at hSw); first | (go_simp; done) | (go_simp; with_reducible rfl))
      try simp only [Act.put, List.setIfInBounds_toArray, List.set_cons_zero, List.set_cons_succ]
      refine held_take 6 (v := ?_) rfl (by kernel_rfl) (by kernel_rfl) (by kernel_rfl) (fun _ _ _ h => h) (by assumption) ?_ ?_
      rotate_left
      · first | (refine Or.inr ⟨?_, ?_⟩ <;> rfl) | (refine Or.inl ⟨by rfl, ?_⟩; intro w hSw; (try dsimp only at hSw); first | (go_simp; done) | (go_simp; with_reducible rfl))
      try simp only [Act.put, List.setIfInBounds_toArray, List.set_cons_zero, List.set_cons_succ]
      refine held_take 7 (v := ?_) rfl (by kernel_rfl) (by kernel_rfl) (by kernel_rfl) (fun _ _ _ h => h) (by assumption) ?_ ?_
      rotate_left
      · first | (refine Or.inr ⟨?_, ?_⟩ <;> rfl) | (refine Or.inl ⟨by rfl, ?_⟩; intro w hSw; (try dsimp only at hSw); first | (go_simp; done) | (go_simp; with_reducible rfl))
      try simp only [Act.put, List.setIfInBounds_toArray, List.set_cons_zero, List.set_cons_succ]

      refine held_call 8 rfl (by kernel_rfl) (fun K hK => ?_)
      go_simp
      refine hK.out _ _ ?_ (fun hHeld => ?_)
      · exact f7
      clear hK K
      try simp only [Act.put, List.setIfInBounds_toArray, List.set_cons_zero, List.set_cons_succ]
      refine held_call 9 rfl (by kernel_rfl) (fun K hK => ?_)
      go_simp
      with_reducible refine (cT _ (SlOf.drew HSX.out)).mono ?_
      rintro e w3 ⟨v, rfl, ho, hb⟩
      refine hK.out _ _ ?_ (fun hHeld => ?_)
      · exact cell_keep' (w := wr.drew) f7 hb
      clear hK K
      obtain ⟨a5, c5, rfl, -⟩ := ho.shape
      have hb5 : Below wr.heap.size wr w3 := (Below.refl wr.heap.size wr).drew.trans hb
      try simp only [Act.put, List.setIfInBounds_toArray, List.set_cons_zero, List.set_cons_succ]
      refine held_take 10 (v := ?_) rfl (by kernel_rfl) (by kernel_rfl) (by kernel_rfl) (fun _ _ _ h => h) (by assumption) ?_ ?_
      rotate_left
      · first | (refine Or.inr ⟨?_, ?_⟩ <;> rfl) | (refine Or.inl ⟨by rfl, ?_⟩; intro w hSw; (try dsimp only at hSw); first | (go_simp; done) | (go_simp; with_reducible rfl))
      try simp only [Act.put, List.setIfInBounds_toArray, List.set_cons_zero, List.set_cons_succ]
      refine held_take 11 (v := ?_) rfl (by kernel_rfl) (by kernel_rfl) (by kernel_rfl) (fun _ _ _ h => h) (by assumption) ?_ ?_
      rotate_left
      · first | (refine Or.inr ⟨?_, ?_⟩ <;> rfl) | (refine Or.inl ⟨by rfl, ?_⟩; intro w hSw; (try dsimp only at hSw); first | (go_simp; done) | (go_simp; with_reducible rfl))
      try simp only [Act.put, List.setIfInBounds_toArray, List.set_cons_zero, List.set_cons_succ]
      refine held_call 12 rfl (by kernel_rfl) (fun K hK => ?_)
      have h18b := cell_keep' h18 hb5
      have hfrb : w3.frozen? ⟨g, k * 19 + 18, none⟩ = false := by rw [frozen_keep hb5 hg2]; exact hfr
      go_simp
      have hne7 : w.heap.size ≠ g := by omega
      refine hK.out _ _ ?_ (fun hHeld2 => ?_)
      · exact (World.cell?_of_block (Below.heap_setCell _ _ _ _ (show w.heap.size ≠ g from hne7))).trans hHeld
      clear hK K hHeld hHeld2
      refine wpAnyH_done (by kernel_rfl) ?_ _
      obtain ⟨hmix, hown, t3, t2, hbel⟩ := HK.out
      have hown3 := hown.keep hb5 (Nat.le_refl _)
      obtain ⟨Cg, fz, hkg⟩ := Lib.ownsRow_kind hown3 g rfl
      have hs4 : ∀ z cs, fdSig w3 z cs → fdSig (w3.setCell ⟨g, k * 19 + 18, none⟩ (.slice a5 y.rs.length c5)) z cs := fun z cs hz => apt_fdSig (by decide) _ _ _ _ _ _ _ hz hkg (by simp [World.setCell]) (fun b _ hne => Below.heap_setCell _ _ _ _ hne)
      obtain ⟨r, hr1⟩ : ∃ r : Row 19, r.1 = rs[k].1.set 18 (.slice a5 y.rs.length c5) := ⟨⟨rs[k].1.set 18 (.slice a5 y.rs.length c5), by rw [List.length_set]; exact rs[k].2⟩, rfl⟩
      have hfr1 : fdSig (w3.setCell ⟨g, k * 19 + 18, none⟩ (.slice a5 y.rs.length c5)) y r.1 := hs4 _ _ ⟨.slice a5 y.rs.length c5, by rw [hr1, HER.out]; rfl, ho.fromBase (Nat.zero_le _)⟩
      have hfr2 : fdSig (w3.setCell ⟨g, k * 19 + 18, none⟩ (.slice a5 y.rs.length c5)) L[k] r.1 := by rw [HY.out]; exact hfr1
      have m1 := Lib.hid (hmix.next hltr hlt' r hfr2 (fun z cs hz => hs4 _ _ (last_fdSig _ _ _ _ hz hb5)))
      have m2 := Lib.hid (hown3.setCellRow hltr (by decide) (.slice a5 y.rs.length c5) r hr1)
      have m3 := Lib.hid (below_set (bstep hbel hb5 (Nat.le_refl _)) (show w.heap.size ≤ g by omega) (k * 19 + 18) (.slice a5 y.rs.length c5))
      have m4 := Lib.hid ((t3.keep hb5 (Nat.le_refl _)).other (a := ⟨g, k * 19 + 18, none⟩) (show g ≠ w.heap.size by omega) (.slice a5 y.rs.length c5))
      have m5 := Lib.hid (setCell_ne (Blk.kindAt t2 hb5) (show w.heap.size + 1 ≠ g by omega) (k * 19 + 18) (.slice a5 y.rs.length c5))
      clear hmix hown t3 t2 hbel hown3 hkg hs4 hfr1 hfr2 HK ho hb hb5 h18 h18b hfr hfrb f7 cT HSX
      go_wp2_with fail
      go_roundw
      case rel => exact ⟨k + 1, rs.set k r, by omega, by go_num, m1.out, m2.out, m3.out, m4.out, m5.out⟩
      case measure => simp [intOf]; omega
    · obtain rfl : k = L.length := by omega
      have HMX := Lib.hid hmix
      have HO := Lib.hid hown
      have HB := Lib.hid hbel
      have T3 := Lib.hid t3
      have K2 := Lib.hid t2
      have T2 := Lib.hid (show Blk wr (w.heap.size + 1) zeroMsgD from ⟨_, t2⟩)
      have q0 := q0.out
      have q1 := q1.out
      clear hmix hown hbel t3 t2 hlr hlt f7
      go_wp2_with (first | (refine wpList_loadS T3.out 46 (.tmp 1) hu (by rw [q0]; exact msg_size) ?_) | (refine wpList_storeS T2.out 46 (.tmp 2) (.tmp 27) (by rw [q0]; exact msg_size) (by rw [q0]; rfl) q1 ?_))
      have hrun := run_loadS (T2.out.row C2) 46 _ hu rfl (by rw [q0]; exact msg_size)
      have hb6 := below_row HB.out (show w.heap.size ≤ w.heap.size + 1 by omega) C2
      refine bodyPost_ret (v := .agg C2) (by simp [results, Tryz.results23, Act.put, asAddr, hrun]) rfl ⟨C2, rfl, ⟨_, by rw [← HC2.out], ?_⟩, hb6⟩
      rw [HL.out]
      have hne : ∀ k, (Value.slice a2 L.length c2).ownBlock = some k → k ≠ w.heap.size + 1 := fun k hk => by have := (HO.out.lt k hk).1; omega
      refine ⟨rs, (Owns.ofBlock HO.out fun k hk => heap_setRow_other _ _ _ _ (hne k hk)).fromBase (by omega), all2_of _ _ HMX.out.1 fun j h1 h2 => ?_⟩
      exact apt_fdSig (by decide) _ _ _ _ _ _ _ ((HMX.out.2 j h1 h2).1 h1) K2.out (by simp [World.setRow]) (fun b _ hne => heap_setRow_other _ _ _ _ hne)
theorem nmessage_any (x : MsgD) (w : World) (cs : Array Value) (hx : rdMsg w x cs.toList) (hr : x.sigs.length ≤ 4000000) (hr2 : ∀ s ∈ x.sigs, s.rs.length ≤ 4000000) :
    Calls Tryz.prog 23 #[.agg cs] w fun e w' => ∃ C : Array Value, e = .returned (.agg C) ∧ fdMsg w' x C.toList ∧ Below w.heap.size w w' :=
  (nmessage_own x w cs hx hr hr2).mono fun e w' ⟨C, h1, ⟨v, h2, h3⟩, h4⟩ => ⟨C, h1, ⟨v, h2, h3.fromBase (Nat.zero_le _)⟩, h4⟩
end Go.Proofs.YtampdbkafkcfdaaGreatDoor
