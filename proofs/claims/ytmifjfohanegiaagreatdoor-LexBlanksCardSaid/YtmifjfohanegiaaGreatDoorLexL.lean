/-
  Plain: bounds of a scan's tokens.
-/
import Derived.Test.YtmifjfohanegiaaGreatDoorLexJ
namespace Go.Proofs.YtmifjfohanegiaaGreatDoor
set_option linter.unusedVariables false
open Go.RowKit Go.Shelf

theorem scan_bd (B : Int) : ∀ (f : Nat) (s : List UInt8) (sk : Nat) (p : Int × Int) (acc l : List TokD), scanF f s sk p acc = .good l → s.length ≤ f → 1 ≤ p.1 → p.1 + s.length ≤ B → (∀ t ∈ acc, 1 ≤ t.line ∧ t.line ≤ B) →
    (∀ t ∈ l, 1 ≤ t.line ∧ t.line ≤ B) ∧ l.length ≤ acc.length + s.length + 1
  | 0, s, sk, p, acc, l, h, hf, h1, h2, h3 => by
    have : s = [] := List.length_eq_zero_iff.1 (by omega)
    subst this
    rw [scan_nil] at h
    cases h
    refine ⟨fun t ht => ?_, by simp⟩
    rcases List.mem_append.1 ht with ht | ht
    · exact h3 t ht
    · rw [List.mem_singleton] at ht; subst ht; simp only [endTok]; simp at h2; omega
  | f + 1, s, sk, p, acc, l, h, hf, h1, h2, h3 => by
    by_cases h0 : s = []
    · subst h0
      rw [scan_nil] at h
      cases h
      refine ⟨fun t ht => ?_, by simp⟩
      rcases List.mem_append.1 ht with ht | ht
      · exact h3 t ht
      · rw [List.mem_singleton] at ht; subst ht; simp only [endTok]; simp at h2; omega
    · have hw := (dec_w s).2.2 h0
      have hw1 := (dec_w s).1
      have hn1 : 1 ≤ (nextP p (decL s).1).1 := by unfold nextP; split <;> simp only <;> omega
      have hn2 : (nextP p (decL s).1).1 + (s.drop (decL s).2).length ≤ B := by
        rw [List.length_drop]; unfold nextP; split <;> simp only <;> omega
      rw [scan_step h0] at h
      split at h
      · cases ht : tokR s with
        | bad e => rw [ht] at h; cases h
        | good k t n =>
          rw [ht] at h
          obtain ⟨r1, r2⟩ := scan_bd B f _ _ _ _ l h (drop_short hf) hn1 hn2 (fun t ht => by
            rcases List.mem_append.1 ht with ht | ht
            · exact h3 t ht
            · rw [List.mem_singleton] at ht; subst ht; simp only; omega)
          refine ⟨r1, ?_⟩
          rw [List.length_append, List.length_drop, List.length_singleton] at r2
          omega
      · obtain ⟨r1, r2⟩ := scan_bd B f _ _ _ _ l h (drop_short hf) hn1 hn2 h3
        refine ⟨r1, ?_⟩
        rw [List.length_drop] at r2
        omega
theorem scanL_bd {s : List UInt8} {l : List TokD} (h : scanL s = .good l) : s.length ≤ 1048576 ∧ l.length ≤ s.length + 1 ∧ 0 < l.length ∧ ∀ t ∈ l, 1 ≤ t.line ∧ t.line ≤ 1048577 := by
  obtain ⟨a1, a2, a3⟩ := scanL_good h
  obtain ⟨r1, r2⟩ := scan_bd 1048577 _ _ _ _ _ _ a3 (Nat.le_refl _) (by decide) (by show (1 : Int) + _ ≤ _; omega) (fun t ht => by cases ht)
  obtain ⟨T, e, _⟩ := scan_app s.length s [] _ 0 (1, 1) [] l (Nat.le_refl _) (Nat.le_refl _) ((check_fine s).1 a2) (Nat.zero_le _) a3
  refine ⟨a1, by simpa using r2, by rw [e]; simp, r1⟩
theorem scanF_bad : ∀ (f : Nat) (s : List UInt8) (sk : Nat) (p : Int × Int) (acc : List TokD) (v : Value), scanF f s sk p acc = .bad v → ∃ T d, v = .iface T d
  | 0, s, sk, p, acc, v, h => by simp [scanF] at h
  | f + 1, s, sk, p, acc, v, h => by
    by_cases h0 : s = []
    · subst h0; rw [scan_nil] at h; cases h
    · rw [scan_step h0] at h
      split at h
      · cases ht : tokR s with
        | bad e => rw [ht] at h; cases h; exact ⟨_, _, rfl⟩
        | good k t n => rw [ht] at h; exact scanF_bad f _ _ _ _ v h
      · exact scanF_bad f _ _ _ _ v h
theorem scanL_bad {s : List UInt8} {v : Value} (h : scanL s = .bad v) : ∃ T d, v = .iface T d := by
  unfold scanL at h
  split at h
  · cases h; exact ⟨_, _, rfl⟩
  · cases hc : checkL s with
    | none => rw [hc] at h; exact scanF_bad _ _ _ _ _ v h
    | some u => rw [hc] at h; cases h; exact ⟨_, _, rfl⟩
end Go.Proofs.YtmifjfohanegiaaGreatDoor
