/-
  Plain: LexLines.
-/
import Derived.Test.YtmifjfohanegiaaGreatDoorLexI
namespace Go.Proofs.YtmifjfohanegiaaGreatDoor
set_option linter.unusedVariables false
open Go.RowKit Go.Shelf

theorem count_hi : ∀ l : List UInt8, (∀ c ∈ l, 128 ≤ c.toNat) → l.count 10 = 0 := by
  intro l h
  rw [List.count_eq_zero]
  intro hm
  have := h 10 hm
  revert this; decide
theorem unit_count (s : List UInt8) (hne : s ≠ []) : (s.take (decL s).2).count 10 = if (decL s).1 = 10 then 1 else 0 := by
  by_cases h : (decL s).1 < 128
  · rcases s with _ | ⟨c, t⟩
    · exact absurd rfl hne
    · obtain ⟨e, h2⟩ := dec_low c t h
      rw [e]
      simp only [List.take_succ_cons, List.take_zero]
      by_cases hc : c = 10
      · subst hc; rfl
      · rw [if_neg (show ¬ c.toNat = 10 from fun e2 => hc (UInt8.toNat_inj.1 e2)), List.count_cons, List.count_nil]
        simp [hc]
  · rw [if_neg (by omega)]
    exact count_hi _ (dec_conts s (by omega) hne)
theorem end_line : ∀ (f : Nat) (s : List UInt8) (p : Int × Int), s.length ≤ f → (endF f s p).1 = p.1 + (s.count 10 : Nat)
  | 0, s, p, h => by
    have : s = [] := List.length_eq_zero_iff.1 (by omega)
    subst this
    simp [endF]
  | f + 1, s, p, h => by
    by_cases h0 : s = []
    · subst h0; simp [endF]
    · have he : endF (f + 1) s p = endF f (s.drop (decL s).2) (nextP p (decL s).1) := by
        show (if s = [] then p else _) = _
        rw [if_neg h0]
      have hc : s.count 10 = (s.take (decL s).2).count 10 + (s.drop (decL s).2).count 10 := by
        rw [← List.count_append, List.take_append_drop]
      rw [he, end_line f _ _ (drop_short h), hc, unit_count s h0]
      unfold nextP
      split
      · simp only; omega
      · simp only; omega
theorem scan_line (f : Nat) (m : List UInt8) (p : Int × Int) (acc : List TokD) : scanF (f + 1) (10 :: m) 0 p acc = scanF f m 0 (p.1 + 1, 1) acc := by
  have hd : decL (10 :: m) = (10, 1) := dec_ascii 10 m (by decide)
  rw [scan_step (by simp), hd, if_neg (by rintro ⟨_, h⟩; cases h)]
  rfl
theorem fine_line (m : List UInt8) (h : fineF m.length m) : fineF (10 :: m).length (10 :: m) := by
  have hd : decL (10 :: m) = (10, 1) := dec_ascii 10 m (by decide)
  rw [List.length_cons, fine_cons (by simp), hd]
  exact ⟨rfl, h⟩
theorem scanL_good {s : List UInt8} {l : List TokD} (h : scanL s = .good l) : s.length ≤ 1048576 ∧ checkL s = none ∧ scanF s.length s 0 (1, 1) [] = .good l := by
  unfold scanL at h
  split at h
  · cases h
  · cases hc : checkL s with
    | none => rw [hc] at h; exact ⟨by omega, rfl, h⟩
    | some u => rw [hc] at h; cases h
/-- of two sources, line behind line -/
theorem lines_plain {a b : List UInt8} {l m : List TokD} (ha : scanL a = .good l) (hb : scanL b = .good m) (hn : a.length + 1 + b.length ≤ 1048576) :
    scanL (a ++ 10 :: b) = .good (l.dropLast ++ m.map (shT ((1 + a.count 10 : Nat) : Int))) := by
  obtain ⟨a1, a2, a3⟩ := scanL_good ha
  obtain ⟨b1, b2, b3⟩ := scanL_good hb
  have fa := (check_fine a).1 a2
  have fb := (check_fine b).1 b2
  have hc : checkL (a ++ 10 :: b) = none := (check_fine _).2 (fine_app a.length a (10 :: b) _ (Nat.le_refl _) (Nat.le_refl _) fa (fine_line b fb))
  have hlen : (a ++ 10 :: b).length = a.length + 1 + b.length := by simp; omega
  unfold scanL
  rw [if_neg (by omega), hc]
  simp only
  obtain ⟨T, e, h2⟩ := scan_app a.length a b (a ++ 10 :: b).length 0 (1, 1) [] l (Nat.le_refl _) (Nat.le_refl _) fa (Nat.zero_le _) a3
  rw [h2, scan_line, end_line _ _ _ (Nat.le_refl _), e, List.dropLast_concat]
  have h4 := scan_shift T ((1 + a.count 10 : Nat) : Int) b.length b 0 1 1 []
  rw [b3, List.map_nil, List.append_nil] at h4
  have h5 : scanF b.length b 0 (1 + ((1 + a.count 10 : Nat) : Int), 1) T = .good (T ++ m.map (shT ((1 + a.count 10 : Nat) : Int))) := h4
  rw [← h5]
  congr 2
  simp only
  omega
end Go.Proofs.YtmifjfohanegiaaGreatDoor
