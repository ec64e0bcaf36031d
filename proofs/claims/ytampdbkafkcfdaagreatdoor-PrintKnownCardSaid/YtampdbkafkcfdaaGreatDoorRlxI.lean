/-
  The reference of chapter 03: Check, May: contracts.
-/
import Derived.Test.YtampdbkafkcfdaaGreatDoorRlxD
import Derived.Test.YtampdbkafkcfdaaGreatDoorLexB
import Derived.Test.YtampdbkafkcfdaaGreatDoorLexG
import Derived.Test.YtampdbkafkcfdaaGreatDoorChrE
import Derived.StillTailTactics

namespace Go.Proofs.YtampdbkafkcfdaaGreatDoor
set_option linter.unusedVariables false
open Go.RowKit Go.Shelf

def enUnt (u : Unt) : List Value := [.int .i64 u.line, .int .i64 u.col, .int .i32 (u.rune : Nat), .int .i64 (u.wide : Nat), .bool (illU u.rune u.wide)]
theorem enUnt_len (u : Unt) : (enUnt u).length = 5 := rfl
theorem unt_at {w : World} {a : Option Addr} {cap : Nat} {l : List Unt} (h : SlOf w enUnt 5 a cap l) {k : Nat} (hk : k < l.length) :
    ∃ b o, a = some ⟨b, o, none⟩ ∧ b < w.heap.size ∧ w.cell? ⟨b, o + k * 5, none⟩ = some (.int .i64 l[k].line) ∧ w.cell? ⟨b, o + k * 5 + 1, none⟩ = some (.int .i64 l[k].col) ∧ w.cell? ⟨b, o + k * 5 + 2, none⟩ = some (.int .i32 (l[k].rune : Nat)) ∧ w.cell? ⟨b, o + k * 5 + 3, none⟩ = some (.int .i64 (l[k].wide : Nat)) ∧ w.cell? ⟨b, o + k * 5 + 4, none⟩ = some (.bool (illU l[k].rune l[k].wide)) := by
  obtain ⟨b, o, rfl, hb, hc⟩ := SlOf.cells h enUnt_len (by decide) hk
  exact ⟨b, o, rfl, hb, hc 0 (by decide), by rw [Nat.add_assoc]; exact hc 1 (by decide), by rw [Nat.add_assoc]; exact hc 2 (by decide), by rw [Nat.add_assoc]; exact hc 3 (by decide), by rw [Nat.add_assoc]; exact hc 4 (by decide)⟩
/-- how many bytes a rune is written in -/
theorem enc_size (R : Nat) (k : Nat) (h : (k = 1 ∧ R < 128) ∨ (k = 2 ∧ 128 ≤ R ∧ R ≤ 2047) ∨ (k = 3 ∧ 2048 ≤ R ∧ R ≤ 65535 ∧ (R < 55296 ∨ 57344 ≤ R)) ∨ (k = 4 ∧ 65536 ≤ R ∧ R ≤ 1114111)) : (Utf8.encode (R : Int)).size = k := by
  have hv : Utf8.valid (R : Int) = true := by
    unfold Utf8.valid
    simp only [Bool.or_eq_true, Bool.and_eq_true, decide_eq_true_eq]
    omega
  unfold Utf8.encode
  simp only [hv, if_true, Int.toNat_natCast]
  rcases h with ⟨rfl, h1⟩ | ⟨rfl, h1, h2⟩ | ⟨rfl, h1, h2, h3⟩ | ⟨rfl, h1, h2⟩
  · rw [if_pos h1]; rfl
  · rw [if_neg (by omega), if_pos (by omega)]; rfl
  · rw [if_neg (by omega), if_neg (by omega), if_pos (by omega)]; rfl
  · rw [if_neg (by omega), if_neg (by omega), if_neg (by omega)]; rfl
/-- the next unit: what the reference asks of it -/
theorem unit_ref (s : List UInt8) (k : Nat) (hk : k < s.length) : ∃ R N, decL (s.drop k) = (R, N) ∧ 1 ≤ N ∧ k + N ≤ s.length ∧
    ((R ≠ 65533 ∧ illU R N = false ∧ (Utf8.encode (R : Int)).size = N) ∨
     (R = 65533 ∧ N = 3 ∧ illU R N = false ∧ (Utf8.encode (R : Int)).size = N ∧ k + 2 < s.length ∧ atB s k = 239 ∧ atB s (k + 1) = 191 ∧ atB s (k + 2) = 189) ∨
     (R = 65533 ∧ N = 1 ∧ illU R N = true ∧ (s.length ≤ k + 2 ∨ (k + 2 < s.length ∧ (atB s k ≠ 239 ∨ (atB s k = 239 ∧ atB s (k + 1) ≠ 191) ∨ (atB s k = 239 ∧ atB s (k + 1) = 191 ∧ atB s (k + 2) ≠ 189)))))) := by
  have hne : s.drop k ≠ [] := by intro h; have := congrArg List.length h; rw [List.length_drop] at this; simp at this; omega
  have hw := dec_w (s.drop k)
  rw [List.length_drop] at hw
  have hw2 := hw.2.2 hne
  refine ⟨(decL (s.drop k)).1, (decL (s.drop k)).2, rfl, hw.1, by omega, ?_⟩
  have hg : ∀ j, (s.drop k).getD j 0 = atB s (k + j) := fun j => by unfold atB; rw [List.getD_eq_getElem?_getD, List.getElem?_drop]
  by_cases h : (decL (s.drop k)).1 = 65533
  · have hi : (decL (s.drop k)).2 = 1 ∧ ¬ (3 ≤ (s.drop k).length ∧ ((s.drop k).getD 0 0).toNat = 239 ∧ ((s.drop k).getD 1 0).toNat = 191 ∧ ((s.drop k).getD 2 0).toNat = 189) ∨ (decL (s.drop k)).2 = 3 ∧ 3 ≤ (s.drop k).length ∧ ((s.drop k).getD 0 0).toNat = 239 ∧ ((s.drop k).getD 1 0).toNat = 191 ∧ ((s.drop k).getD 2 0).toNat = 189 := decN_ill (s.drop k).length ((s.drop k).getD 0 0).toNat ((s.drop k).getD 1 0).toNat ((s.drop k).getD 2 0).toNat ((s.drop k).getD 3 0).toNat (UInt8.toNat_lt _) (UInt8.toNat_lt _) (UInt8.toNat_lt _) h
    rw [List.length_drop, hg 0, hg 1, hg 2] at hi
    have un : ∀ (c : UInt8) (m : UInt8), c.toNat = m.toNat ↔ c = m := fun c m => UInt8.toNat_inj
    have e0 : (239 : UInt8).toNat = 239 := rfl
    have e1 : (191 : UInt8).toNat = 191 := rfl
    have e2 : (189 : UInt8).toNat = 189 := rfl
    rw [← e0, ← e1, ← e2, un, un, un, Nat.add_zero] at hi
    right
    rcases hi with ⟨h1, h2⟩ | ⟨h1, h2, h3, h4, h5⟩
    · right
      have h1' : (decL (s.drop k)).2 = 1 := h1
      refine ⟨h, h1', by rw [h, h1']; rfl, ?_⟩
      by_cases hl : s.length ≤ k + 2
      · exact .inl hl
      · refine .inr ⟨by omega, ?_⟩
        by_cases a0 : atB s k = 239
        · by_cases a1 : atB s (k + 1) = 191
          · by_cases a2 : atB s (k + 2) = 189
            · exact absurd ⟨by omega, a0, a1, a2⟩ h2
            · exact .inr (.inr ⟨a0, a1, a2⟩)
          · exact .inr (.inl ⟨a0, a1⟩)
        · exact .inl a0
    · left
      have h1' : (decL (s.drop k)).2 = 3 := h1
      exact ⟨h, h1', by rw [h, h1']; rfl, by rw [h, h1']; rfl, by omega, h3, h4, h5⟩
  · left
    obtain ⟨c, n, e, hc⟩ := decN_cases (s.drop k).length ((s.drop k).getD 0 0).toNat ((s.drop k).getD 1 0).toNat ((s.drop k).getD 2 0).toNat ((s.drop k).getD 3 0).toNat
    have e' : decL (s.drop k) = (c, n) := e
    rw [e'] at h ⊢
    simp only at h ⊢
    refine ⟨h, by unfold illU; rw [Bool.and_eq_false_iff, beq_eq_false_iff_ne]; exact .inl h, enc_size c n ?_⟩
    rcases hc with hc | hc | hc | hc | hc
    · exact .inl hc
    · exact .inr (.inl hc)
    · exact .inr (.inr (.inl hc))
    · exact .inr (.inr (.inr hc))
    · exact absurd hc.1 h
structure UnI (s : List UInt8) (k f : Nat) (L C : Int) (acc : List Unt) : Prop where
  hk : k ≤ s.length
  hf : s.length ≤ f + k
  hv : unitsL s = acc ++ unitsF f (s.drop k) (L, C)
  l1 : 1 ≤ L
  l2 : L ≤ (k : Int) + 1
  c1 : 1 ≤ C
  c2 : C ≤ (k : Int) + 1
  n : acc.length ≤ k
theorem UnI.step {s : List UInt8} {k f : Nat} {L C : Int} {acc : List Unt} (h : UnI s k (f + 1) L C acc) (hlt : k < s.length) {R N : Nat} (he : decL (s.drop k) = (R, N)) (h1 : 1 ≤ N) (h2 : k + N ≤ s.length) : UnI s (k + N) f (nextP (L, C) R).1 (nextP (L, C) R).2 (acc ++ [⟨L, C, R, N⟩]) := by
  have hne : s.drop k ≠ [] := by intro h; have := congrArg List.length h; rw [List.length_drop] at this; simp at this; omega
  obtain ⟨a, b, v, d1, d2, d3, d4, n⟩ := h
  have hu : unitsF (f + 1) (s.drop k) (L, C) = ⟨L, C, R, N⟩ :: unitsF f (s.drop (k + N)) (nextP (L, C) R) := by
    show (if s.drop k = [] then [] else _) = _
    rw [if_neg hne, he, List.drop_drop]
  have hn : 1 ≤ (nextP (L, C) R).1 ∧ (nextP (L, C) R).1 ≤ L + 1 ∧ 1 ≤ (nextP (L, C) R).2 ∧ (nextP (L, C) R).2 ≤ C + 1 := by
    unfold nextP; split <;> simp only <;> omega
  refine ⟨h2, by omega, ?_, hn.1, by omega, hn.2.2.1, by omega, by rw [List.length_append]; simp; omega⟩
  rw [v, hu, List.append_assoc]
  rfl

end Go.Proofs.YtampdbkafkcfdaaGreatDoor

namespace Go.Proofs.YtampdbkafkcfdaaGreatDoor
set_option linter.unusedVariables false
open Go.RowKit Go.Shelf

def chk3V (s : List UInt8) : Value := if 1048576 < s.length then .tuple #[.int .i64 5, .agg #[.int .i64 0, .int .i64 0]] else match checkL s with
  | none => .tuple #[.int .i64 0, .agg #[.int .i64 0, .int .i64 0]]
  | some u => .tuple #[.int .i64 6, .agg #[.int .i64 u.line, .int .i64 u.col]]
theorem unts_len (s : List UInt8) : (unitsL s).length ≤ s.length := unitsF_len _ _ _
theorem unt_rune (s : List UInt8) (k : Nat) (hk : k < (unitsL s).length) : (unitsL s)[k].rune ≤ 1114111 := by
  rw [(unit_at s k hk).2.1]; exact dec_max _

theorem any_or {α : Type} (p q : α → Bool) : ∀ l : List α, (l.any p || l.any q) = l.any fun x => p x || q x
  | [] => rfl
  | a :: l => by
    rw [List.any_cons, List.any_cons, List.any_cons, ← any_or p q l]
    cases p a <;> cases q a <;> cases l.any p <;> cases l.any q <;> rfl
end Go.Proofs.YtampdbkafkcfdaaGreatDoor
