/-
  The plain law of trimmed digits, and rat's Parse: contract.
-/
import Derived.Test.YtmifjfohanegiaaGreatDoorParS
import Derived.Test.YtmifjfohanegiaaGreatDoorParW
namespace Go.Proofs.YtmifjfohanegiaaGreatDoor
set_option linter.unusedVariables false
open Go.RowKit

theorem dec_ten {V : Nat} (hV : 0 < V) : Lib.decDigits (V * 10) = Lib.decDigits V ++ [48] := by
  obtain ⟨k, h1, h2, h3⟩ := dec_len V
  rw [dec_pad (k + 1) (V * 10) (by rw [Nat.pow_succ]; omega) (.inr (by
    rw [Nat.pow_succ]
    rcases h3 with rfl | h3
    · rw [Nat.pow_zero]; omega
    · omega)), padD_snoc, Nat.mul_div_cancel _ (by decide), h1]
  congr 2
  unfold dgt
  rw [Nat.mul_mod_left]; rfl
theorem dec_tens {V : Nat} (hV : 0 < V) (e : Nat) : Lib.decDigits (V * 10 ^ e) = Lib.decDigits V ++ List.replicate e 48 := by
  induction e with
  | zero => simp
  | succ e ih =>
    rw [Nat.pow_succ, ← Nat.mul_assoc, dec_ten (Nat.mul_pos hV (p10 e)), ih, List.append_assoc, ← List.replicate_succ']
theorem strip_tens (V : Nat) (hV : 0 < V) : ∃ v z, V = v * 10 ^ z ∧ v % 10 ≠ 0 ∧ 0 < v := by
  induction V using Nat.strongRecOn with
  | _ V ih =>
    by_cases h : V % 10 = 0
    · obtain ⟨v, z, h1, h2, h3⟩ := ih (V / 10) (Nat.div_lt_self hV (by decide)) (by omega)
      exact ⟨v, z + 1, by rw [Nat.pow_succ, ← Nat.mul_assoc, ← h1]; omega, h2, h3⟩
    · exact ⟨V, 0, by simp, h, hV⟩
theorem drop_rep (z : Nat) (l : List UInt8) : (List.replicate z 48 ++ l).dropWhile (fun c : UInt8 => c == 48) = l.dropWhile (fun c => c == 48) := by
  induction z with
  | zero => simp
  | succ z ih => rw [List.replicate_succ, List.cons_append, List.dropWhile_cons, if_pos (by simp), ih]
theorem trim_dec {v : Nat} (z : Nat) (hv : 0 < v) (hz : v % 10 ≠ 0) : Lib.trimRightB (Lib.decDigits (v * 10 ^ z)) 48 = Lib.decDigits v := by
  obtain ⟨P, hP⟩ := dec_last v
  have hn : dgt v ≠ 48 := by
    intro h
    have h2 := dgt_val v
    rw [h] at h2
    have h48 : UInt8.toNat 48 = 48 := rfl
    omega
  unfold Lib.trimRightB
  rw [dec_tens hv, List.reverse_append, List.reverse_replicate]
  show (List.dropWhile (fun c => c == 48) _).reverse = _
  rw [drop_rep, hP, List.reverse_append]
  show (List.dropWhile (fun c => c == 48) (dgt v :: P.reverse)).reverse = _
  rw [List.dropWhile_cons, if_neg (by simpa using hn), List.reverse_cons, List.reverse_reverse]
theorem rep_zero (e : Nat) : Lib.repeatL [48] e = List.replicate e 48 := by
  induction e with
  | zero => rfl
  | succ e ih => rw [List.replicate_succ, ← ih]; rfl
theorem left_zero {d : List UInt8} (hd : digL d) (h : valL d = 0) : d.dropWhile (fun c => c == 48) = [] := by
  cases he : d.dropWhile (fun c => c == 48) with
  | nil => rfl
  | cons c l =>
    have h1 := val_drop d
    rw [he, h] at h1
    have hsub : digL (c :: l) := fun x hx => hd x (by
      have : x ∈ d.dropWhile (fun c => c == 48) := by rw [he]; exact hx
      exact (List.dropWhile_sublist _).subset this)
    have hc : c ≠ 48 := by
      intro h2
      have h3 := List.head_dropWhile_not (p := fun c : UInt8 => c == 48) (l := d) (by rw [he]; simp)
      simp only [he, List.head_cons] at h3
      rw [h2] at h3; simp at h3
    have := (dec_canon hsub hc).2
    rw [h1] at this
    have := p10 l.length
    omega
theorem left_dec {d : List UInt8} (hd : digL d) (h : 0 < valL d) : d.dropWhile (fun c => c == 48) = Lib.decDigits (valL d) := by
  have := drop_pad d.length (valL d) h (valL_lt hd)
  rwa [pad_valL hd] at this

/-! ### what read answers -/
theorem tw_dg (l : List UInt8) : digL (tw l) := by
  intro c hc
  unfold tw at hc
  induction l with
  | nil => simp at hc
  | cons a t ih =>
    rw [List.takeWhile_cons] at hc
    split at hc
    · rename_i h
      rcases List.mem_cons.1 hc with rfl | h2
      · exact h
      · exact ih h2
    · simp at hc
theorem tw_dw_len (l : List UInt8) : (tw l).length + (dw l).length = l.length := by
  have := congrArg List.length (List.takeWhile_append_dropWhile (p := isDg) (l := l))
  rw [List.length_append] at this
  exact this
theorem cutS_len (s : List UInt8) : (cutS s).2.length ≤ s.length := by
  unfold cutS
  split
  · simp
  · split <;> simp
theorem cutP_facts {s b r : List UInt8} (h : cutP s = some (b, r)) : digL b ∧ b.length ≤ s.length := by
  unfold cutP at h
  split at h
  · cases h; exact ⟨fun c hc => absurd hc (by simp), by simp⟩
  · rename_i c t
    split at h
    · split at h
      · cases h
      · cases h
        have := tw_dw_len t
        exact ⟨tw_dg t, by rw [List.length_cons]; omega⟩
    · cases h; exact ⟨fun c hc => absurd hc (by simp), by simp⟩
theorem powS_le (l : List UInt8) : ∀ n, n ≤ 1000 → powS n l ≤ 1000 := by
  induction l with
  | nil => intro n h; exact h
  | cons c l ih => intro n h; rw [powS_cons]; exact ih _ (Nat.min_le_right _ _)
theorem read_facts {s d : List UInt8} {neg : Bool} {p : Int} (h : readL s = some (neg, d, p)) : digL d ∧ d.length ≤ s.length ∧ -(1000 + (s.length : Int)) ≤ p ∧ p ≤ 1000 := by
  rw [read_cut] at h
  unfold cutL at h
  split at h
  · cases h
  · rename_i h1
    cases hp : cutP (dw (cutS s).2) with
    | none => rw [hp] at h; cases h
    | some br =>
      obtain ⟨b, r⟩ := br
      rw [hp] at h
      simp only at h
      cases he : cutE r with
      | none => rw [he] at h; cases h
      | some q =>
        obtain ⟨down, pw, z⟩ := q
        rw [he] at h
        simp only at h
        split at h
        · simp only [Option.map_some, Option.some.injEq, Prod.mk.injEq] at h
          obtain ⟨h2, rfl, rfl⟩ := h
          obtain ⟨f1, f2⟩ := cutP_facts hp
          have f3 := tw_dw_len (cutS s).2
          have f4 := cutS_len s
          have f5 : powL pw ≤ 1000 := powS_le pw 0 (by decide)
          refine ⟨fun c hc => (List.mem_append.1 hc).elim (tw_dg _ c) (f1 c), by rw [List.length_append]; omega, ?_, ?_⟩
          · unfold sgP; split <;> omega
          · unfold sgP; split <;> omega
        · cases h

def parseR (R : Option (Bool × List UInt8 × Int)) : Value :=
  match R with
  | none => .tuple #[.agg #[.int .i64 0, .int .i64 0], errV 8]
  | some (neg, d, p) => ratV (parseF neg (valL d) p)
def parseV (s : List UInt8) : Value :=
  if 96 < s.length then .tuple #[.agg #[.int .i64 0, .int .i64 0], errV 3] else parseR (readL s)
end Go.Proofs.YtmifjfohanegiaaGreatDoor
