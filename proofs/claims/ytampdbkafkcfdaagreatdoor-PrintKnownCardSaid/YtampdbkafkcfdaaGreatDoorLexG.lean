/-
  lex.Scan: contract.
-/
import Derived.Test.YtampdbkafkcfdaaGreatDoorLexF
namespace Go.Proofs.YtampdbkafkcfdaaGreatDoor
set_option linter.unusedVariables false
open Go.RowKit Go.Shelf

theorem scan_tok {f : Nat} {s : List UInt8} {sk : Nat} {p : Int × Int} {acc : List TokD} (hne : s ≠ []) (h0 : sk = 0) (hb : blankU (decL s).1 = false) : scanF (f + 1) s sk p acc = match tokR s with
      | .bad e => .bad (faultV (e : Nat) p.1 p.2)
      | .good k t n => scanF f (s.drop (decL s).2) (n - (decL s).2) (nextP p (decL s).1) (acc ++ [⟨k, t, p.1, p.2⟩]) := by
  rw [scanF, if_neg hne, if_pos ⟨h0, hb⟩]
  all_goals (cases tokR s <;> rfl)
theorem scan_skip {f : Nat} {s : List UInt8} {sk : Nat} {p : Int × Int} {acc : List TokD} (hne : s ≠ []) (h : ¬ (sk = 0 ∧ blankU (decL s).1 = false)) : scanF (f + 1) s sk p acc = scanF f (s.drop (decL s).2) (sk - (decL s).2) (nextP p (decL s).1) acc := by
  rw [scanF, if_neg hne, if_neg h]
theorem Owns.of_heap {α : Type} {w w' : World} {base : Nat} {e : TypeId} {size : Nat} {en : α → List Value} {v : Value} {xs : List α} (h : Owns w base e size en v xs) (hh : ∀ k, v.ownBlock = some k → w'.heap[k]? = w.heap[k]?) : Owns w' base e size en v xs := by
  refine ⟨h.1, ?_⟩
  rcases h.2 with h0 | ⟨g, cap, cur, hv, h1, h2, h3⟩
  · exact .inl h0
  · refine .inr ⟨g, cap, cur, hv, h1, ?_, h3⟩
    rw [hh g (by rw [hv]; rfl)]
    exact h2
structure ScanI (s : List UInt8) (V : ScanR) (k f u : Nat) (L C : Int) (acc : List TokD) : Prop where
  hk : k ≤ s.length
  hf : s.length ≤ f + k
  hu : u ≤ s.length
  hv : V = scanF f (s.drop k) (u - k) (L, C) acc
  l1 : 1 ≤ L
  l2 : L ≤ (k : Int) + 1
  c1 : 1 ≤ C
  c2 : C ≤ (k : Int) + 1
  n : acc.length ≤ k

theorem ScanI.step {s : List UInt8} {V : ScanR} {k f u : Nat} {L C : Int} {acc : List TokD} (h : ScanI s V k (f + 1) u L C acc) {N u' : Nat} {L' C' : Int} {acc' : List TokD} (h1 : 1 ≤ N) (h2 : k + N ≤ s.length) (h3 : u' ≤ s.length)
    (hv : V = scanF f (s.drop (k + N)) (u' - (k + N)) (L', C') acc') (hl : acc'.length ≤ acc.length + 1) (h4 : (L' = L + 1 ∧ C' = 1) ∨ (L' = L ∧ C' = C + 1)) : ScanI s V (k + N) f u' L' C' acc' := by
  obtain ⟨_, b, _, _, e1, e2, e3, e4, n⟩ := h
  refine ⟨h2, by omega, h3, hv, ?_, ?_, ?_, ?_, by omega⟩ <;> rcases h4 with ⟨rfl, rfl⟩ | ⟨rfl, rfl⟩ <;> omega
theorem ScanI.skip {s : List UInt8} {V : ScanR} {k f u : Nat} {L C : Int} {acc : List TokD} (h : ScanI s V k (f + 1) u L C acc) (hlt : k < s.length) (hb : ¬ (u - k = 0 ∧ blankU (decL (s.drop k)).1 = false)) : V = scanF f (s.drop (k + (decL (s.drop k)).2)) (u - (k + (decL (s.drop k)).2)) (nextP (L, C) (decL (s.drop k)).1) acc := by
  have hne : s.drop k ≠ [] := by intro h; have := congrArg List.length h; rw [List.length_drop] at this; simp at this; omega
  rw [h.hv, scan_skip hne hb, List.drop_drop, Nat.sub_sub]
theorem ScanI.tok {s : List UInt8} {V : ScanR} {k f u : Nat} {L C : Int} {acc : List TokD} (h : ScanI s V k (f + 1) u L C acc) (hlt : k < s.length) (h0 : u - k = 0) (hb : blankU (decL (s.drop k)).1 = false) : V = match tokR (s.drop k) with
      | .bad e => .bad (faultV (e : Nat) L C)
      | .good kk t n => scanF f (s.drop (k + (decL (s.drop k)).2)) (k + n - (k + (decL (s.drop k)).2)) (nextP (L, C) (decL (s.drop k)).1) (acc ++ [⟨kk, t, L, C⟩]) := by
  have hne : s.drop k ≠ [] := by intro h; have := congrArg List.length h; rw [List.length_drop] at this; simp at this; omega
  rw [h.hv, scan_tok hne h0 hb]
  cases tokR (s.drop k) with
  | bad e => rfl
  | good kk t n => simp only [List.drop_drop]; rw [show k + n - (k + (decL (s.drop k)).2) = n - (decL (s.drop k)).2 by omega]

end Go.Proofs.YtampdbkafkcfdaaGreatDoor
