/-
  chars.may: contract.
-/
import Derived.Test.YtajnmbhcaogfoaaGreatDoorChrB
import Derived.Test.YtajnmbhcaogfoaaGreatDoorShelfV
import Derived.Lib.ValidU
namespace Go.Proofs.YtajnmbhcaogfoaaGreatDoor
set_option linter.unusedVariables false
open Go.RowKit Go.Shelf

theorem decodeL_dec (l : List UInt8) : Lib.decodeL l = decL l := by
  have := dec_drop l 0
  rw [List.drop_zero] at this
  exact this
theorem validGo_units (f : Nat) (l : List UInt8) (p : Int × Int) : Lib.validGoD f l = !((unitsF f l p).any fun u => illU u.rune u.wide) := by
  induction f generalizing l p with
  | zero => rfl
  | succ f ih =>
    unfold Lib.validGoD unitsF
    by_cases h : l = []
    · rw [if_pos h, if_pos h]; rfl
    · rw [if_neg h, if_neg h, decodeL_dec, List.any_cons]
      by_cases hi : (decL l).1 = 65533 ∧ (decL l).2 = 1
      · rw [if_pos hi]; unfold illU; rw [hi.1, hi.2]; rfl
      · rw [if_neg hi, ih _ (nextP p (decL l).1)]
        have : illU (decL l).1 (decL l).2 = false := by
          unfold illU; rw [Bool.eq_false_iff]; intro h2; apply hi
          rw [Bool.and_eq_true, beq_iff_eq, beq_iff_eq] at h2; exact h2
        rw [this, Bool.false_or]
theorem valid_units (l : List UInt8) : Lib.validD l = !((unitsL l).any fun u => illU u.rune u.wide) := validGo_units _ _ _
theorem idx_units (q : Nat → Bool) (s : List UInt8) (f pos : Nat) (p : Int × Int) : decide (0 ≤ Lib.idxFuncFrom q true ⟨s.toArray⟩ f pos) = (unitsF f (s.drop pos) p).any fun u => q u.rune := by
  induction f generalizing pos p with
  | zero => rfl
  | succ f ih =>
    unfold Lib.idxFuncFrom unitsF
    by_cases h : pos < s.length
    · have hne : s.drop pos ≠ [] := by intro h2; have := congrArg List.length h2; rw [List.length_drop] at this; simp at this; omega
      rw [if_pos (show pos < (⟨s.toArray⟩ : ByteArray).size from h), if_neg hne, dec_drop, List.any_cons]
      cases hq : q (decL (s.drop pos)).1
      · rw [if_neg (by simp), Bool.false_or, ih _ (nextP p (decL (s.drop pos)).1), List.drop_drop]
      · rw [if_pos rfl, Bool.true_or, decide_eq_true_eq]; omega
    · have hne : s.drop pos = [] := List.drop_eq_nil_of_le (by omega)
      rw [if_neg (show ¬ pos < (⟨s.toArray⟩ : ByteArray).size from h), if_pos hne]; rfl
theorem contains_units (q : Nat → Bool) (s : List UInt8) : decide (0 ≤ Lib.idxFunc q true ⟨s.toArray⟩) = (unitsL s).any fun u => q u.rune := idx_units q s s.length 0 (1, 1)

/-- the error's number; 0: none -/
def mayN (l : List UInt8) : Nat := if 1024 < l.length then 5 else if ((unitsL l).any fun u => illU u.rune u.wide) || ((unitsL l).any fun u => ctlU u.rune) then 6 else 0
def errO (n : Nat) : Value := if n = 0 then .nilIface else errV n
def TabsU (w : World) : Prop := Lib.Utf8Tabs 5 6 w
theorem TabsU.keep {w w' : World} (h : TabsU w) (hb : Below w.heap.size w w') : TabsU w' := by
  refine ⟨fun c hc => cell_keep' (h.1 c hc) hb, fun i hi => ⟨cell_keep' (h.2 i hi).1 hb, cell_keep' (h.2 i hi).2 hb⟩⟩
theorem valid_any (s : List UInt8) (hs : s.length ≤ 9223372036854775807) (w : World) (hT : TabsU w) :
    Calls Tryz.prog 95 #[.string ⟨s.toArray⟩] w fun e w' => e = .returned (.bool (!((unitsL s).any fun u => illU u.rune u.wide))) ∧ Below w.heap.size w w' := by
  rw [← valid_units]
  exact Any.utf8_ValidString Tryz.lays196 ⟨s.toArray⟩ w hs hT
theorem containsCtl_any (s : List UInt8) (w : World) :
    Calls Tryz.prog 96 #[.string ⟨s.toArray⟩, .func (.func 97) #[] #[]] w fun e w' => e = .returned (.bool ((unitsL s).any fun u => ctlU u.rune)) ∧ Below w.heap.size w w' := by
  rw [← contains_units ctlU s]
  exact Tryz.strings_ContainsFunc 97 #[] (enters_of Tryz.func97 (by kernel_rfl) rfl) ctlU ⟨s.toArray⟩ w
    (fun W x hb => (control_any x W).mono fun e w' h => ⟨h.1, 0, h.2⟩)

set_option maxRecDepth 100000 in
theorem may_any (s : List UInt8) (hs : s.length ≤ 9223372036854775807) (w : World) (hT : TabsU w) :
    Calls Tryz.prog 65 #[.string ⟨s.toArray⟩] w fun e w' => e = .returned (errO (mayN s)) ∧ Below w.heap.size w w' := by
  by_cases h : (1024 : Int) < s.length
  · have HM := Lib.hid (show mayN s = 5 by unfold mayN; rw [if_pos (by omega)])
    clear hT
    go_enter Tryz.func65, Tryz.ntmps65
    go_wp2_with fail
    go_ret
    exact ⟨by rw [HM.out] <;> rfl, Below.refl _ _⟩
  · have c1 := valid_any s hs w hT
    have c2 := containsCtl_any s
    have hm : mayN s = if ((unitsL s).any fun u => illU u.rune u.wide) || ((unitsL s).any fun u => ctlU u.rune) then 6 else 0 := by unfold mayN; rw [if_neg (by omega)]
    have HM := Lib.hid hm
    clear hT hm
    generalize ((unitsL s).any fun u => illU u.rune u.wide) = b1 at *
    generalize ((unitsL s).any fun u => ctlU u.rune) = b2 at *
    cases b1 <;> cases b2
    all_goals
      have HN := Lib.hid HM.out
      clear HM
      go_enter Tryz.func65, Tryz.ntmps65
      go_wp2_with fail
      with_reducible refine c1.mono ?_
      rintro e w1 ⟨rfl, hb⟩
      have HB1 := Lib.hid hb
      clear hb c1
      go_wp2_with fail
      try (with_reducible refine (c2 _).mono ?_; rintro e w2 ⟨rfl, hb⟩; replace HB1 := Lib.hid (bstep HB1.out hb (Nat.le_refl _)); clear hb; go_wp2_with fail)
      go_ret
      exact ⟨by rw [HN.out] <;> rfl, HB1.out⟩
end Go.Proofs.YtajnmbhcaogfoaaGreatDoor
