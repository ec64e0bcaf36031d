/-
  Plain: the quoted text's end, by bytes and by runes; names.
-/
import Derived.Test.YtmifjfohanegiaaGreatDoorUniM
namespace Go.Proofs.YtmifjfohanegiaaGreatDoor
set_option linter.unusedVariables false

theorem decN_conts (n b0 b1 b2 b3 : Nat) (h : 128 ≤ (Lib.decodeN n b0 b1 b2 b3).1) :
    128 ≤ b0 ∧ (2 ≤ (Lib.decodeN n b0 b1 b2 b3).2 → 128 ≤ b1 ∧ 2 ≤ n) ∧ (3 ≤ (Lib.decodeN n b0 b1 b2 b3).2 → 128 ≤ b2 ∧ 3 ≤ n) ∧ (4 ≤ (Lib.decodeN n b0 b1 b2 b3).2 → 128 ≤ b3 ∧ 4 ≤ n) := by
  revert h
  unfold Lib.decodeN
  split
  · intro h; simp only at h; omega
  split
  · split
    · intro h; dsimp only; omega
    · intro h; dsimp only; omega
  split
  · split
    · intro h; dsimp only; omega
    · intro h; dsimp only; omega
  split
  · split
    · intro h; dsimp only; omega
    · intro h; dsimp only; omega
  · intro h; dsimp only; omega
/-- a unit of several bytes has no byte below 128 -/
theorem dec_conts (l : List UInt8) (h : 128 ≤ (decL l).1) (hl : l ≠ []) : ∀ c ∈ l.take (decL l).2, 128 ≤ c.toNat := by
  obtain ⟨h0, h1, h2, h3⟩ := decN_conts l.length (l.getD 0 0).toNat (l.getD 1 0).toNat (l.getD 2 0).toNat (l.getD 3 0).toNat h
  obtain ⟨w1, w2, w3⟩ := dec_w l
  intro c hc
  obtain ⟨j, hj, rfl⟩ := List.getElem_of_mem hc
  rw [List.length_take] at hj
  have hj1 : j < (decL l).2 := by omega
  have hj2 : j < l.length := by omega
  rw [List.getElem_take]
  have e : l[j] = l.getD j 0 := by simp [List.getD, hj2]
  rw [e]
  have hj4 : j < 4 := by omega
  rcases j with _ | _ | _ | _ | j
  · exact h0
  · exact (h1 hj1).1
  · exact (h2 hj1).1
  · exact (h3 hj1).1
  · omega

/-- the place of the closing quote: (a backslash ahead?) (the place) -/
def endQ : Bool → Nat → List UInt8 → Option Nat
  | _, _, [] => none
  | true, i, _ :: t => endQ false (i + 1) t
  | false, i, c :: t => if c = 92 then endQ true (i + 1) t else if c = 34 then some i else endQ false (i + 1) t
theorem endQ_nil (b : Bool) (i : Nat) : endQ b i [] = none := by cases b <;> rfl
theorem endQ_skip (i : Nat) : ∀ (l m : List UInt8), (∀ c ∈ l, 128 ≤ c.toNat) → endQ false i (l ++ m) = endQ false (i + l.length) m
  | [], m, _ => rfl
  | c :: t, m, h => by
    have hc := h c (List.mem_cons_self ..)
    have h1 : c ≠ 92 := by intro e; rw [e] at hc; revert hc; decide
    have h2 : c ≠ 34 := by intro e; rw [e] at hc; revert hc; decide
    rw [List.cons_append]
    show (if c = 92 then _ else if c = 34 then _ else _) = _
    rw [if_neg h1, if_neg h2, endQ_skip (i + 1) t m (fun x hx => h x (List.mem_cons_of_mem _ hx)), List.length_cons]
    congr 1; omega
/-- a unit that is no single byte below 128 -/
theorem endQ_unit (b : Bool) (i : Nat) (l : List UInt8) (hl : l ≠ []) (h : 128 ≤ (decL l).1) : endQ b i l = endQ false (i + (decL l).2) (l.drop (decL l).2) := by
  have hc := dec_conts l h hl
  have hw := dec_w l
  have hlen : (l.take (decL l).2).length = (decL l).2 := by rw [List.length_take]; have := hw.2.2 hl; omega
  have e := List.take_append_drop (decL l).2 l
  cases b with
  | false =>
    have h2 := endQ_skip i (l.take (decL l).2) (l.drop (decL l).2) hc
    rw [e, hlen] at h2
    exact h2
  | true =>
    generalize (decL l).2 = n at *
    cases l with
    | nil => exact absurd rfl hl
    | cons c t =>
      obtain ⟨m, rfl⟩ : ∃ m, n = m + 1 := ⟨n - 1, by omega⟩
      rw [List.take_succ_cons] at hc
      have h2 := endQ_skip (i + 1) (t.take m) (t.drop m) (fun x hx => hc x (List.mem_cons_of_mem _ hx))
      rw [List.take_append_drop] at h2
      rw [List.drop_succ_cons]
      show endQ false (i + 1) t = _
      rw [h2, List.length_take, show min m t.length = m by have := hlen; simp only [List.take_succ_cons, List.length_cons, List.length_take] at this; omega]
      congr 1; omega
theorem endQ_lt : ∀ (l : List UInt8) (b : Bool) (i k : Nat), endQ b i l = some k → i ≤ k ∧ k < i + l.length
  | [], b, i, k, h => by rw [endQ_nil] at h; cases h
  | c :: t, true, i, k, h => by
    have := endQ_lt t false (i + 1) k h
    rw [List.length_cons]; omega
  | c :: t, false, i, k, h => by
    rw [List.length_cons]
    have h' : (if c = 92 then endQ true (i + 1) t else if c = 34 then some i else endQ false (i + 1) t) = some k := h
    split at h'
    · have := endQ_lt t true (i + 1) k h'; omega
    split at h'
    · cases h'; omega
    · have := endQ_lt t false (i + 1) k h'; omega
end Go.Proofs.YtmifjfohanegiaaGreatDoor
