/-
  The reference of chapter 03: Check, May: contracts.
-/
import Derived.Test.YtajnmbhcaogfoaaGreatDoorRlxB
import Derived.Test.YtajnmbhcaogfoaaGreatDoorChrD
import Derived.StillTailTactics
namespace Go.Proofs.YtajnmbhcaogfoaaGreatDoor
set_option linter.unusedVariables false
open Go.RowKit Go.Shelf

def chk3V (s : List UInt8) : Value := if 1048576 < s.length then .tuple #[.int .i64 5, .agg #[.int .i64 0, .int .i64 0]] else match checkL s with
  | none => .tuple #[.int .i64 0, .agg #[.int .i64 0, .int .i64 0]]
  | some u => .tuple #[.int .i64 6, .agg #[.int .i64 u.line, .int .i64 u.col]]
theorem unts_len (s : List UInt8) : (unitsL s).length ≤ s.length := unitsF_len _ _ _
theorem unt_rune (s : List UInt8) (k : Nat) (hk : k < (unitsL s).length) : (unitsL s)[k].rune ≤ 1114111 := by
  rw [(unit_at s k hk).2.1]; exact dec_max _

theorem any_or {α : Type} (p q : α → Bool) : ∀ l : List α, (l.any p || l.any q) = l.any fun x => p x || q x
  | [] => rfl
  | a :: l => by
    rw [List.any_cons, List.any_cons, List.any_cons, ← any_or p q l]
    cases p a <;> cases q a <;> cases l.any p <;> cases l.any q <;> rfl
set_option maxRecDepth 100000 in
set_option maxHeartbeats 8000000 in
theorem may3_any (s : List UInt8) (hs : s.length ≤ 9223372036854775807) (w : World) :
    Calls Tryz.prog 12 #[.string ⟨s.toArray⟩] w fun e w' => e = .returned (.int .i64 (mayN s : Nat)) ∧ Below w.heap.size w w' := by
  obtain ⟨V, hV⟩ : ∃ V, V = mayN s := ⟨_, rfl⟩
  rw [← hV]
  unfold mayN at hV
  by_cases hlong : (1024 : Int) < s.length
  · rw [if_pos (by omega)] at hV
    have HN := Lib.hid hV
    clear hV
    go_enter Tryz.func12, Tryz.ntmps12
    go_wp2_with fail
    go_ret
    exact ⟨by rw [HN.out] <;> rfl, Below.refl _ _⟩
  · rw [if_neg (by omega), any_or] at hV
    have cU := fun w => units_any s (by omega) w
    have HV := Lib.hid hV
    have hul := unts_len s
    have hn63 : (unitsL s).length ≤ 1024 := by omega
    clear hV hs hul
    go_enter Tryz.func12, Tryz.ntmps12
    go_wp2_with fail
    with_reducible refine (cU _).mono ?_
    rintro e w1 ⟨a, c, rfl, ho, hb⟩
    have HB1 := Lib.hid hb
    have HS := Lib.hid ho.sl.2
    clear hb ho cU hlong
    go_wp2_with fail
    go_loopw [4] (fun x wr => ∃ k : Nat, x = .int .i64 (k : Nat) ∧ k ≤ (unitsL s).length ∧ (∀ j, (h : j < (unitsL s).length) → j < k → (illU (unitsL s)[j].rune (unitsL s)[j].wide || ctlU (unitsL s)[j].rune) = false) ∧ wr = w1) (fun x _ => (unitsL s).length - (intOf x).toNat)
    case atStart => exact ⟨0, rfl, Nat.zero_le _, fun j _ h => absurd h (Nat.not_lt_zero _), rfl⟩
    case round =>
      obtain ⟨k, rfl, hk, hno, rfl⟩ := hrel
      by_cases hlt : (k : Int) < (unitsL s).length
      · have hlt' : k < (unitsL s).length := by omega
        obtain ⟨b, o, rfl, hbs, e0, e1, e2, e3, e4⟩ := unt_at HS.out hlt'
        have HNX := Lib.hid (show (illU (unitsL s)[k].rune (unitsL s)[k].wide || ctlU (unitsL s)[k].rune) = false → ∀ j, (h : j < (unitsL s).length) → j < k + 1 → (illU (unitsL s)[j].rune (unitsL s)[j].wide || ctlU (unitsL s)[j].rune) = false from fun hb j h h2 => by
          by_cases hj : j < k
          · exact hno j h hj
          · obtain rfl : j = k := by omega
            exact hb)
        have HV2 := Lib.hid (show (illU (unitsL s)[k].rune (unitsL s)[k].wide || ctlU (unitsL s)[k].rune) = true → V = 6 from fun hb => by
          have h2 := HV.out
          rw [if_pos (List.any_eq_true.2 ⟨(unitsL s)[k], List.getElem_mem _, hb⟩)] at h2
          exact h2)
        have cc := fun w => control3_any (unitsL s)[k].rune w
        clear hno HV
        generalize illU (unitsL s)[k].rune (unitsL s)[k].wide = bi at *
        generalize ctlU (unitsL s)[k].rune = bc at *
        generalize (unitsL s)[k].rune = R at *
        cases bi
        · cases bc
          · have HX := Lib.hid (HNX.out rfl)
            clear HNX HV2
            go_wp2_with fail
            with_reducible refine (cc _).mono ?_
            rintro e w2 ⟨rfl, rfl⟩
            go_wp2_with fail
            go_roundw
            case rel => exact ⟨k + 1, by first | rfl | go_num, by omega, HX.out, by first | rfl | trivial⟩
            case measure => (simp [intOf] <;> omega)
          · have HX := Lib.hid (HV2.out rfl)
            clear HNX HV2
            go_wp2_with fail
            with_reducible refine (cc _).mono ?_
            rintro e w2 ⟨rfl, rfl⟩
            go_wp2_with fail
            go_ret
            exact ⟨by rw [HX.out] <;> rfl, HB1.out⟩
        · have HX := Lib.hid (HV2.out rfl)
          clear HNX HV2
          go_wp2_with fail
          go_ret
          exact ⟨by rw [HX.out] <;> rfl, HB1.out⟩
      · have HX := Lib.hid (show V = 0 by
          have h2 := HV.out
          rw [if_neg] at h2
          · exact h2
          · intro h
            obtain ⟨u, hu, h3⟩ := List.any_eq_true.1 h
            obtain ⟨j, hj, rfl⟩ := List.getElem_of_mem hu
            rw [hno j hj (by omega)] at h3
            cases h3)
        clear hno HV
        go_wp2_with fail
        go_ret
        exact ⟨by rw [HX.out] <;> rfl, HB1.out⟩
end Go.Proofs.YtajnmbhcaogfoaaGreatDoor
