/-
  The reference of chapter 04: quoted, sign: contracts.
-/
import Derived.Test.YtmifjfohanegiaaDoorRlxD
import Derived.Test.YtmifjfohanegiaaDoorLexE
namespace Go.Proofs.YtmifjfohanegiaaDoor
set_option linter.unusedVariables false
open Go.RowKit Go.Shelf

def qtN : Option Nat → Nat
  | none => 0
  | some k => k + 1
set_option maxRecDepth 100000 in
set_option maxHeartbeats 4000000 in
theorem quoted4_any (s : List UInt8) (i : Nat) (hs : s.length ≤ 1000000000) (hi : i < s.length) (w : World) :
    Calls Tryd.prog 36 #[.string ⟨s.toArray⟩, .int .i64 (i : Nat)] w fun e w' => e = .returned (.int .i64 (qtN (endQ false (i + 1) (s.drop (i + 1))) : Nat)) ∧ w' = w := by
  obtain ⟨V, hV⟩ : ∃ V, V = endQ false (i + 1) (s.drop (i + 1)) := ⟨_, rfl⟩
  rw [← hV]
  have HV := Lib.hid hV
  clear hV
  go_enter Tryd.func36, Tryd.ntmps36
  go_wp2_with fail
  go_loopw [5] (fun x wr => ∃ k : Nat, x = .int .i64 (k : Nat) ∧ k ≤ s.length + 1 ∧ V = endQ false k (s.drop k) ∧ wr = w) (fun x _ => s.length + 1 - (intOf x).toNat)
  case atStart => exact ⟨i + 1, by first | rfl | go_num, by omega, HV.out, rfl⟩
  case round =>
    clear HV
    obtain ⟨k, rfl, hk, hVk, rfl⟩ := hrel
    by_cases hlt : (k : Int) < s.length
    · have hlt' : k < s.length := by omega
      have hget : (⟨s.toArray⟩ : ByteArray)[k]'hlt' = s[k] := rfl
      have hd := List.drop_eq_getElem_cons hlt'
      rw [hd] at hVk
      generalize s[k] = c at *
      have hstep : endQ false k (c :: s.drop (k + 1)) = if c = 92 then endQ true (k + 1) (s.drop (k + 1)) else if c = 34 then some k else endQ false (k + 1) (s.drop (k + 1)) := rfl
      rw [hstep] at hVk
      by_cases e1 : c = 92
      · rw [if_pos e1] at hVk
        have HN := Lib.hid (show V = endQ false (k + 1 + 1) (s.drop (k + 1 + 1)) by
          rw [hVk]
          rcases Nat.lt_or_ge (k + 1) s.length with h | h
          · rw [List.drop_eq_getElem_cons h]; rfl
          · rw [List.drop_eq_nil_of_le h, List.drop_eq_nil_of_le (by omega), endQ_nil, endQ_nil])
        have g1 := u8_eqT (k := 92) (by decide) e1
        clear hd hVk hstep e1
        go_wp2_with fail
        go_roundw
        case rel => exact ⟨k + 1 + 1, by first | rfl | go_num, by omega, HN.out, trivial⟩
        case measure => (simp [intOf] <;> omega)
      · rw [if_neg e1] at hVk
        have g1 := u8_eqF (k := 92) (by decide) e1
        by_cases e2 : c = 34
        · rw [if_pos e2] at hVk
          have HN := Lib.hid hVk
          have g2 := u8_eqT (k := 34) (by decide) e2
          clear hd hVk hstep e1 e2
          go_wp2_with fail
          go_ret
          exact ⟨by rw [HN.out] <;> rfl, rfl⟩
        · rw [if_neg e2] at hVk
          have HN := Lib.hid hVk
          have g2 := u8_eqF (k := 34) (by decide) e2
          clear hd hVk hstep e1 e2
          go_wp2_with fail
          go_roundw
          case rel => exact ⟨k + 1, by first | rfl | go_num, by omega, HN.out, trivial⟩
          case measure => (simp [intOf] <;> omega)
    · have HN := Lib.hid (show V = none by rw [hVk, List.drop_eq_nil_of_le (by omega), endQ_nil])
      clear hVk
      go_wp2_with fail
      go_ret
      exact ⟨by rw [HN.out] <;> rfl, rfl⟩

def sgsL : List UInt8 := [58, 124, 40, 41, 91, 93, 44, 59]
theorem sgs_lt : ∀ k, (h : k < sgsL.length) → sgU sgsL[k].toNat = true := by decide
theorem sgs_all (c : UInt8) (h : sgU c.toNat = true) : ∃ k, ∃ h : k < sgsL.length, sgsL[k] = c := by
  unfold sgU at h
  simp only [Bool.or_eq_true, beq_iff_eq] at h
  have un : ∀ m : UInt8, c.toNat = m.toNat → c = m := fun m e => UInt8.toNat_inj.1 e
  rcases h with ((((((h | h) | h) | h) | h) | h) | h) | h
  · exact ⟨0, by decide, (un 58 h).symm⟩
  · exact ⟨1, by decide, (un 124 h).symm⟩
  · exact ⟨2, by decide, (un 40 h).symm⟩
  · exact ⟨3, by decide, (un 41 h).symm⟩
  · exact ⟨4, by decide, (un 91 h).symm⟩
  · exact ⟨5, by decide, (un 93 h).symm⟩
  · exact ⟨6, by decide, (un 44 h).symm⟩
  · exact ⟨7, by decide, (un 59 h).symm⟩
theorem ordB_at (l : List UInt8) : ordB l = (atB l 0 == 64 && (atB l 1 == 48 || atB l 1 == 49) && (atB l 2 == 43 || atB l 2 == 45)) := by
  rcases l with _ | ⟨a, _ | ⟨b, _ | ⟨c, t⟩⟩⟩
  · rfl
  · simp [ordB, atB]
  · simp [ordB, atB]
  · have e : ∀ x y z : UInt8, ((a :: b :: c :: t).take 3 == [x, y, z]) = (a == x && b == y && c == z) := fun x y z => by
      rw [Bool.eq_iff_iff]
      simp [and_assoc]
    unfold ordB
    rw [e, e, e, e]
    show _ = (a == 64 && (b == 48 || b == 49) && (c == 43 || c == 45))
    generalize (a == 64) = b1
    generalize (b == 48) = b2
    generalize (b == 49) = b3
    generalize (c == 43) = b4
    generalize (c == 45) = b5
    revert b1 b2 b3 b4 b5
    decide
def sgnR (s : List UInt8) (i : Nat) : Nat := if sgU (atB s i).toNat = true then i + 1 else if ordB (s.drop i) = true then i + 3 else 0
theorem ord_cases (l : List UInt8) (c b d : UInt8) (hc : atB l 0 = c) (hb : atB l 1 = b) (hd : atB l 2 = d) :
    (ordB l = true ∧ c = 64 ∧ (b = 48 ∨ b = 49 ∧ b ≠ 48) ∧ (d = 43 ∨ d = 45 ∧ d ≠ 43)) ∨ (ordB l = false ∧ (c ≠ 64 ∨ (c = 64 ∧ b ≠ 48 ∧ b ≠ 49) ∨ (c = 64 ∧ (b = 48 ∨ b = 49 ∧ b ≠ 48) ∧ d ≠ 43 ∧ d ≠ 45))) := by
  rw [ordB_at, hc, hb, hd]
  by_cases h1 : c = 64
  · by_cases h2 : b = 48
    · by_cases h3 : d = 43
      · left; subst h1 h2 h3; exact ⟨by decide, rfl, .inl rfl, .inl rfl⟩
      · by_cases h4 : d = 45
        · left; subst h1 h2 h4; exact ⟨by decide, rfl, .inl rfl, .inr ⟨rfl, h3⟩⟩
        · right; exact ⟨by simp [h3, h4], .inr (.inr ⟨h1, .inl h2, h3, h4⟩)⟩
    · by_cases h5 : b = 49
      · by_cases h3 : d = 43
        · left; subst h1 h5 h3; exact ⟨by decide, rfl, .inr ⟨rfl, h2⟩, .inl rfl⟩
        · by_cases h4 : d = 45
          · left; subst h1 h5 h4; exact ⟨by decide, rfl, .inr ⟨rfl, h2⟩, .inr ⟨rfl, h3⟩⟩
          · right; exact ⟨by simp [h3, h4], .inr (.inr ⟨h1, .inr ⟨h5, h2⟩, h3, h4⟩)⟩
      · right; exact ⟨by simp [h2, h5], .inr (.inl ⟨h1, h2, h5⟩)⟩
  · right; exact ⟨by simp [h1], .inl h1⟩

set_option maxRecDepth 100000 in
set_option maxHeartbeats 4000000 in
theorem sign4_any (s : List UInt8) (i : Nat) (hs : s.length ≤ 1000000000) (hi : i < s.length) (w : World) :
    Calls Tryd.prog 38 #[.string ⟨s.toArray⟩, .int .i64 (i : Nat)] w fun e w' => e = .returned (.int .i64 (sgnR s i : Nat)) ∧ Below w.heap.size w w' := by
  obtain ⟨V, hV⟩ : ∃ V, V = sgnR s i := ⟨_, rfl⟩
  rw [← hV]
  unfold sgnR at hV
  have cB := fun w => at4_at s ((i : Int) + 1) (i + 1) (by omega) hs w
  have cC := fun w => at4_at s ((i : Int) + 2) (i + 2) (by omega) hs w
  have hoc := ord_cases (s.drop i) (atB s i) (atB s (i + 1)) (atB s (i + 2)) (atB_drop s i 0) (atB_drop s i 1) (atB_drop s i 2)
  have hget := get_atB s i hi
  have HV := Lib.hid hV
  have HOC := Lib.hid hoc
  clear hV hoc
  generalize atB s i = c at *
  generalize atB s (i + 1) = b at *
  generalize atB s (i + 2) = d at *
  generalize ordB (s.drop i) = o at *
  go_enter Tryd.func38, Tryd.ntmps38
  go_wp2_with fail
  go_loopw [6] (fun x wr => ∃ k : Nat, x = .int .i64 (k : Nat) ∧ k ≤ 8 ∧ (∀ j, (h : j < sgsL.length) → j < k → sgsL[j] ≠ c) ∧ Below w.heap.size w wr) (fun x _ => 8 - (intOf x).toNat)
  case atStart => exact ⟨0, rfl, by decide, fun j _ h => absurd h (Nat.not_lt_zero _), Below.refl _ _⟩
  case round =>
    obtain ⟨k, rfl, hk, hno, hb⟩ := hrel
    by_cases hlt : (k : Int) < 8
    · have hlt' : k < sgsL.length := by show k < 8; omega
      have hget2 : (⟨#[58, 124, 40, 41, 91, 93, 44, 59]⟩ : ByteArray)[k]'hlt' = sgsL[k] := rfl
      by_cases e1 : c = sgsL[k]
      · have HN := Lib.hid (show V = i + 1 by rw [HV.out, if_pos]; rw [e1]; exact sgs_lt k hlt')
        have g1 : ((c.toNat : Int) == (((⟨#[58, 124, 40, 41, 91, 93, 44, 59]⟩ : ByteArray)[k]'hlt').toNat : Int)) = true := by rw [hget2, e1, beq_iff_eq]
        clear HOC HV hno e1 cB cC hget2
        go_wp2_with fail
        go_quiet (fail)
        go_wp2_with fail
        go_ret
        exact ⟨by rw [HN.out] <;> rfl, hb.trans ⟨rfl, rfl, rfl, Nat.le_refl _, fun _ _ => rfl⟩⟩
      · have g1 : ((c.toNat : Int) == (((⟨#[58, 124, 40, 41, 91, 93, 44, 59]⟩ : ByteArray)[k]'hlt').toNat : Int)) = false := by
          rw [hget2, beq_eq_false_iff_ne]; intro h; exact e1 (UInt8.toNat_inj.1 (by omega))
        have HNX := Lib.hid (show ∀ j, (h : j < sgsL.length) → j < k + 1 → sgsL[j] ≠ c from fun j h h2 => by
          by_cases hj : j < k
          · exact hno j h hj
          · obtain rfl : j = k := by omega
            exact fun h3 => e1 h3.symm)
        clear hno e1 cB cC hget2
        go_wp2_with fail
        go_quiet (fail)
        go_wp2_with fail
        go_roundw
        case rel => exact ⟨k + 1, by first | rfl | go_num, by omega, HNX.out, hb.trans ⟨rfl, rfl, rfl, Nat.le_refl _, fun _ _ => rfl⟩⟩
        case measure => (simp [intOf] <;> omega)
    · have hs0 : sgU c.toNat = false := by
        rw [Bool.eq_false_iff]; intro h
        obtain ⟨j, hj, e⟩ := sgs_all c h
        exact hno j hj (by have : j < 8 := hj; omega) e
      have hV := HV.out
      rw [hs0, if_neg (by simp)] at hV
      have HB := Lib.hid hb
      have ci := fun w => cB w
      have HVV := Lib.hid hV
      clear HV hs0 hno hV hb
      rcases HOC.out with ⟨ho, h1, h2, h3⟩ | ⟨ho, h1⟩
      · have HN := Lib.hid (show V = i + 3 by rw [HVV.out, if_pos ho])
        have g1 := u8_eqT (k := 64) (by decide) h1
        have g2 : ((b.toNat : Int) == 48) = true ∨ (((b.toNat : Int) == 48) = false ∧ ((b.toNat : Int) == 49) = true) := by
          rcases h2 with h | ⟨h, h'⟩
          · exact .inl (u8_eqT (k := 48) (by decide) h)
          · exact .inr ⟨u8_eqF (k := 48) (by decide) h', u8_eqT (k := 49) (by decide) h⟩
        have g3 : ((d.toNat : Int) == 43) = true ∨ (((d.toNat : Int) == 43) = false ∧ ((d.toNat : Int) == 45) = true) := by
          rcases h3 with h | ⟨h, h'⟩
          · exact .inl (u8_eqT (k := 43) (by decide) h)
          · exact .inr ⟨u8_eqF (k := 43) (by decide) h', u8_eqT (k := 45) (by decide) h⟩
        clear HOC HVV h1 h2 h3 ho ci
        rcases g2 with g2 | ⟨g2, g2'⟩ <;> rcases g3 with g3 | ⟨g3, g3'⟩
        all_goals
          go_wp2_with fail
          with_reducible refine (cB _).mono ?_
          rintro e w1 ⟨rfl, rfl⟩
          go_wp2_with fail
          with_reducible refine (cC _).mono ?_
          rintro e w1 ⟨rfl, rfl⟩
          go_wp2_with fail
          go_ret
          exact ⟨by rw [HN.out] <;> rfl, HB.out⟩
      · have HN := Lib.hid (show V = 0 by rw [HVV.out, if_neg (by rw [ho]; simp)])
        have gg : ((c.toNat : Int) == 64) = false ∨ (((c.toNat : Int) == 64) = true ∧ ((b.toNat : Int) == 48) = false ∧ ((b.toNat : Int) == 49) = false) ∨ (((c.toNat : Int) == 64) = true ∧ ((b.toNat : Int) == 48) = true ∧ ((d.toNat : Int) == 43) = false ∧ ((d.toNat : Int) == 45) = false) ∨ (((c.toNat : Int) == 64) = true ∧ ((b.toNat : Int) == 48) = false ∧ ((b.toNat : Int) == 49) = true ∧ ((d.toNat : Int) == 43) = false ∧ ((d.toNat : Int) == 45) = false) := by
          rcases h1 with h | ⟨h, h2, h3⟩ | ⟨h, h2, h3, h4⟩
          · exact .inl (u8_eqF (k := 64) (by decide) h)
          · exact .inr (.inl ⟨u8_eqT (k := 64) (by decide) h, u8_eqF (k := 48) (by decide) h2, u8_eqF (k := 49) (by decide) h3⟩)
          · rcases h2 with h2 | ⟨h2, h5⟩
            · exact .inr (.inr (.inl ⟨u8_eqT (k := 64) (by decide) h, u8_eqT (k := 48) (by decide) h2, u8_eqF (k := 43) (by decide) h3, u8_eqF (k := 45) (by decide) h4⟩))
            · exact .inr (.inr (.inr ⟨u8_eqT (k := 64) (by decide) h, u8_eqF (k := 48) (by decide) h5, u8_eqT (k := 49) (by decide) h2, u8_eqF (k := 43) (by decide) h3, u8_eqF (k := 45) (by decide) h4⟩))
        clear HOC HVV h1 ho ci
        rcases gg with g1 | ⟨g1, g2, g3⟩ | ⟨g1, g2, g3, g4⟩ | ⟨g1, g2, g3, g4, g5⟩
        all_goals
          go_wp2_with fail
          with_reducible refine (cB _).mono ?_
          rintro e w1 ⟨rfl, rfl⟩
          go_wp2_with fail
          with_reducible refine (cC _).mono ?_
          rintro e w1 ⟨rfl, rfl⟩
          go_wp2_with fail
          go_ret
          exact ⟨by rw [HN.out] <;> rfl, HB.out⟩
end Go.Proofs.YtmifjfohanegiaaDoor
