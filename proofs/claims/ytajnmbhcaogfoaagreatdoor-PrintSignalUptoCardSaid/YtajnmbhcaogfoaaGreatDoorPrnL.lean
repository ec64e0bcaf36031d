/-
  The kit of the statements: LentSignal, KeptSignal: contracts.
-/
import Derived.Test.YtajnmbhcaogfoaaGreatDoorPrnG
import Derived.Test.YtajnmbhcaogfoaaGreatDoorListTxt
import Derived.Test.YtajnmbhcaogfoaaGreatDoorBigQ

namespace Go.Proofs.YtajnmbhcaogfoaaGreatDoor
set_option linter.unusedVariables false
open Go.RowKit Go.Shelf

/-- the cells of a signal -/
def SigD.cells (d : SigD) (tv : Value) : Array Value := #[.int .i64 d.line, .int .i64 d.col, .string ⟨d.name.toArray⟩, .int .i64 d.role, .int .u64 (d.branch : Nat), .int .i64 d.start, .int .i64 d.size, .bool d.moto, .bool d.signed, .int .i64 d.sn, .int .i64 d.sd, .int .i64 d.on, .int .i64 d.od, .int .i64 d.mn, .int .i64 d.md, .int .i64 d.xn, .int .i64 d.xd, .string ⟨d.unit.toArray⟩, tv]
theorem SigD.agg_eq (d : SigD) (tv : Value) : d.agg tv = .agg (d.cells tv) := rfl
theorem SigD.cells_size (d : SigD) (tv : Value) : (d.cells tv).size = 19 := rfl
theorem SigD.cells_one (d : SigD) (a : Option Addr) (n c : Nat) : (d.cells (.slice a n c)).all (·.oneCell') = true := by unfold SigD.cells; simp [Value.oneCell']
theorem SigD.cells_to (d : SigD) (tv : Value) : (d.cells tv)[18]? = some tv := rfl
theorem SigD.cells_set (d : SigD) (tv v : Value) : (d.cells tv).setIfInBounds 18 v = d.cells v := rfl
abbrev zeroSig : Array Value := #[.int .i64 0, .int .i64 0, .string ⟨#[]⟩, .int .i64 0, .int .u64 0, .int .i64 0, .int .i64 0, .bool false, .bool false, .int .i64 0, .int .i64 0, .int .i64 0, .int .i64 0, .int .i64 0, .int .i64 0, .int .i64 0, .int .i64 0, .string ⟨#[]⟩, .slice none 0 0]
theorem sig_zero : (Tryz.prog.info? 29).map (fun i => (i.zero, i.size)) = some (some (.agg zeroSig), 19) := by kernel_rfl
theorem sig_size : (Tryz.prog.info? 29).map (·.size) = some 19 := by kernel_rfl

set_option maxRecDepth 100000 in
set_option maxHeartbeats 4000000 in
theorem lentSig_any (d : SigD) (l : List (List UInt8)) (n : Nat) (hn : n = l.length) (a : Option Addr) (cap : Nat) (w : World) (hs : SlX w a cap l) (hr : l.length * 16 ≤ 140737488351232) :
    Calls Tryz.prog 5 #[d.agg (.slice a n cap)] w fun e w' => ∃ g c, e = .returned (d.agg (.slice (some ⟨g, 0, none⟩) n c)) ∧ Below w.heap.size w w' ∧ w.heap.size ≤ g ∧
      Owns w' w.heap.size 9 1 enTx (.slice (some ⟨g, 0, none⟩) (n + 16) c) (l ++ marksX 16) := by
  have c := fun W hW => lentTx_any l n hn a cap W hW hr
  clear hn hr
  simp only [SigD.agg_eq]
  have e0 := SigD.cells_size d (.slice a n cap)
  have e1 := SigD.cells_one d a n cap
  have e2 := SigD.cells_to d (.slice a n cap)
  have ES := Lib.hid (SigD.cells_set d (.slice a n cap))
  have EO := Lib.hid (SigD.cells_one d)
  have EZ := Lib.hid (SigD.cells_size d)
  have e3 : ∀ h, (d.cells (.slice a n cap))[18]'h = .slice a n cap := fun _ => rfl
  generalize d.cells (.slice a n cap) = C at *
  obtain ⟨zb, -, hbz⟩ := box2 w C zeroSig 29 29
  have hu := Tryz.underlying29
  have hb3 : Below w.heap.size w (((w.alloc (.cells C 29)).alloc (.cells zeroSig 29)).alloc (.cells C 29)) := hbz.2.alloc (by simp; omega) _
  go_enter Tryz.func5, Tryz.ntmps5
  go_wp2_with (first | (refine wpList_loadS zb 29 (.tmp 1) hu (by rw [e0]; exact sig_size) ?_) | (refine wpList_newS (Z := zeroSig) (cs := C) 29 (.tmp 3) (.tmp 4) (by rw [e0]; exact sig_zero) (by rw [e0]; rfl) e1 ?_))
  with_reducible refine (c _ (hs.keep hb3 (Nat.le_refl _))).mono ?_
  rintro e w1 ⟨g, c2, rfl, hb, hg, ho⟩
  have hb4 := bstep hb3 hb (Nat.le_refl _)
  have t3 := ((Blk.new _ C 29).keep hb (Nat.le_refl _))
  have t2 := (((Blk.new _ zeroSig 29).alloc (.cells C 29)).keep hb (Nat.le_refl _))
  simp only [World.size_alloc] at t3 t2 hg
  have T3 := Lib.hid ((t3.put 18 (.slice (some ⟨g, 0, none⟩) n c2)))
  have T2 := Lib.hid (t2.other (a := ⟨w.heap.size + 1 + 1, 18, none⟩) (show w.heap.size + 1 + 1 ≠ w.heap.size + 1 by omega) (.slice (some ⟨g, 0, none⟩) n c2))
  rw [ES.out] at T3
  have f0 := t3.cell 18 _ e2
  have f1 := t3.free 18
  have q0 := EZ.out (.slice (some ⟨g, 0, none⟩) n c2)
  have q1 := EO.out (some ⟨g, 0, none⟩) n c2
  have HO := Lib.hid ho
  have HB4 := Lib.hid hb4
  have HG := Lib.hid hg
  have HSZ := Lib.hid hb.size
  generalize hD : d.cells (.slice (some ⟨g, 0, none⟩) n c2) = D at *
  have HD := Lib.hid hD
  clear hD
  clear t3 t2 hb hb3 hb4 c zb e1 hs ho hg
  go_wp2_with (first | (refine wpList_loadS T3.out 29 (.tmp 3) hu (by rw [q0]; exact sig_size) ?_) | (refine wpList_storeS T2.out 29 (.tmp 2) (.tmp 9) (by rw [q0]; exact sig_size) (by rw [q0]; rfl) q1 ?_))
  have hrun := run_loadS (T2.out.row D) 29 _ hu rfl (by rw [q0]; exact sig_size)
  have hb5 := HB4.out
  have hg5 := HG.out
  have hz : w.heap.size + 1 + 1 + 1 ≤ w1.heap.size := Nat.le_trans (by simp) HSZ.out
  refine bodyPost_ret (v := .agg D) (by simp [results, Tryz.results5, Act.put, asAddr, hrun]) rfl ⟨g, c2, by rw [HD.out], ?_, by omega, ?_⟩
  · exact below_row (hb5.setCell (by show w.heap.size ≤ w.heap.size + 2; omega) _) (by omega) _
  · refine Owns.ofBlock (HO.out.fromBase (by simp; omega)) fun k hk => ?_
    cases hk
    rw [heap_setRow_other _ _ _ _ (show g ≠ w.heap.size + 1 by omega)]
    exact Below.heap_setCell _ _ _ _ (by show g ≠ w.heap.size + 2; omega)
set_option maxRecDepth 100000 in
set_option maxHeartbeats 4000000 in
theorem keptSig_any (d : SigD) (l : List (List UInt8)) (n m : Nat) (hn : n = l.length) (hm : m = l.length) (a : Option Addr) (cap g o c : Nat) (w : World) (hs : SlX w a cap l) (ho : SlX w (some ⟨g, o, none⟩) c (l ++ marksX 16)) (hr : l.length * 16 ≤ 140737488351232) :
    Calls Tryz.prog 8 #[d.agg (.slice (some ⟨g, o, none⟩) n c), d.agg (.slice a m cap)] w fun e w' => e = .returned (.bool true) ∧ Below w.heap.size w w' := by
  have ck := fun W h1 h2 => keptTx_any l n m hn hm a cap g o c W h1 h2 hr
  have hb2 : ∀ o1 o2, Below w.heap.size w ((w.alloc o1).alloc o2) := fun o1 o2 => ((Below.refl w.heap.size w).alloc (Nat.le_refl _) o1).alloc (by simp) o2
  have HC := Lib.hid (fun o1 o2 => ck _ (hs.keep (hb2 o1 o2) (Nat.le_refl _)) (ho.keep (hb2 o1 o2) (Nat.le_refl _)))
  have HB := Lib.hid hb2
  clear hs ho hn hm hr ck hb2
  obtain ⟨v0, v1, v2, v3, v4, v5, v6, v7, v8, v9, v10, v11, v12, v13, v14, v15, v16, v17⟩ := d
  unfold SigD.agg
  simp only
  go_enter Tryz.func8, Tryz.ntmps8
  go_wp2_with fail
  with_reducible refine (HC.out _ _).mono ?_
  rintro e w1 ⟨rfl, hb⟩
  have hb3 := bstep (HB.out _ _) hb (by simp)
  go_wp2_with fail
  go_ret
  exact ⟨rfl, hb3⟩
end Go.Proofs.YtajnmbhcaogfoaaGreatDoor
