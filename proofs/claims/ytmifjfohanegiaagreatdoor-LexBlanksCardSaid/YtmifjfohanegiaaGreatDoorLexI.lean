/-
  Plain: a scan of two texts, line behind line.
-/
import Derived.Test.YtmifjfohanegiaaGreatDoorLexH
namespace Go.Proofs.YtmifjfohanegiaaGreatDoor
set_option linter.unusedVariables false
open Go.RowKit Go.Shelf

theorem scan_step {f : Nat} {s : List UInt8} {sk : Nat} {p : Int × Int} {acc : List TokD} (hne : s ≠ []) : scanF (f + 1) s sk p acc = if sk = 0 ∧ blankU (decL s).1 = false then
      match tokR s with
      | .bad e => .bad (faultV (e : Nat) p.1 p.2)
      | .good k t n => scanF f (s.drop (decL s).2) (n - (decL s).2) (nextP p (decL s).1) (acc ++ [⟨k, t, p.1, p.2⟩])
    else scanF f (s.drop (decL s).2) (sk - (decL s).2) (nextP p (decL s).1) acc := by
  rw [scanF, if_neg hne]
  split
  · cases tokR s <;> rfl
  · rfl
theorem scan_fuel : ∀ (f g : Nat) (s : List UInt8) (sk : Nat) (p : Int × Int) (acc : List TokD), s.length ≤ f → s.length ≤ g → scanF f s sk p acc = scanF g s sk p acc
  | 0, g, s, sk, p, acc, h1, h2 => by
    have : s = [] := List.length_eq_zero_iff.1 (by omega)
    subst this
    rw [scan_nil, scan_nil]
  | f + 1, 0, s, sk, p, acc, h1, h2 => by
    have : s = [] := List.length_eq_zero_iff.1 (by omega)
    subst this
    rw [scan_nil, scan_nil]
  | f + 1, g + 1, s, sk, p, acc, h1, h2 => by
    by_cases h0 : s = []
    · subst h0; rw [scan_nil, scan_nil]
    · rw [scan_step h0, scan_step h0]
      have a1 := drop_short h1
      have a2 := drop_short h2
      split
      · cases tokR s with
        | bad e => rfl
        | good k t n => exact scan_fuel f g _ _ _ _ a1 a2
      · exact scan_fuel f g _ _ _ _ a1 a2
/-- no unit of a text is bad -/
def fineF (f : Nat) (s : List UInt8) : Prop := ∀ u ∈ unitsF f s (1, 1), badU u.rune u.wide = false
theorem units_rw : ∀ (f : Nat) (s : List UInt8) (p q : Int × Int), (unitsF f s p).map (fun u => (u.rune, u.wide)) = (unitsF f s q).map (fun u => (u.rune, u.wide))
  | 0, _, _, _ => rfl
  | f + 1, s, p, q => by
    unfold unitsF
    split
    · rfl
    · rw [List.map_cons, List.map_cons, units_rw f _ (nextP p _) (nextP q _)]
theorem fine_at (f : Nat) (s : List UInt8) (p : Int × Int) (h : fineF f s) : ∀ u ∈ unitsF f s p, badU u.rune u.wide = false := by
  intro u hu
  have h1 : (u.rune, u.wide) ∈ (unitsF f s p).map (fun u => (u.rune, u.wide)) := List.mem_map.2 ⟨u, hu, rfl⟩
  rw [units_rw f s p (1, 1)] at h1
  obtain ⟨v, hv, e⟩ := List.mem_map.1 h1
  have := h v hv
  simp only [Prod.mk.injEq] at e
  rw [e.1, e.2] at this
  exact this
theorem fine_of (f : Nat) (s : List UInt8) (p : Int × Int) (h : ∀ u ∈ unitsF f s p, badU u.rune u.wide = false) : fineF f s := by
  intro u hu
  have h1 : (u.rune, u.wide) ∈ (unitsF f s (1, 1)).map (fun u => (u.rune, u.wide)) := List.mem_map.2 ⟨u, hu, rfl⟩
  rw [units_rw f s (1, 1) p] at h1
  obtain ⟨v, hv, e⟩ := List.mem_map.1 h1
  have := h v hv
  simp only [Prod.mk.injEq] at e
  rw [e.1, e.2] at this
  exact this
theorem fine_cons {f : Nat} {s : List UInt8} (hne : s ≠ []) : fineF (f + 1) s ↔ badU (decL s).1 (decL s).2 = false ∧ fineF f (s.drop (decL s).2) := by
  have e : ∀ p, unitsF (f + 1) s p = ⟨p.1, p.2, (decL s).1, (decL s).2⟩ :: unitsF f (s.drop (decL s).2) (nextP p (decL s).1) := fun p => by
    show (if s = [] then [] else _) = _
    rw [if_neg hne]
  constructor
  · intro h
    unfold fineF at h
    rw [e] at h
    exact ⟨h _ (List.mem_cons_self ..), fine_of f _ _ (fun u hu => h u (List.mem_cons_of_mem _ hu))⟩
  · rintro ⟨h1, h2⟩ u hu
    rw [e] at hu
    rcases List.mem_cons.1 hu with rfl | hu
    · exact h1
    · exact fine_at f _ _ h2 u hu
theorem fine_nil (f : Nat) : fineF f [] := by intro u hu; rw [unitsF_nil] at hu; cases hu
theorem fine_fuel : ∀ (f g : Nat) (s : List UInt8), s.length ≤ f → s.length ≤ g → fineF f s → fineF g s
  | 0, g, s, h1, h2, h => by
    have : s = [] := List.length_eq_zero_iff.1 (by omega)
    subst this; exact fine_nil g
  | f + 1, 0, s, h1, h2, h => by
    have : s = [] := List.length_eq_zero_iff.1 (by omega)
    subst this; exact fine_nil 0
  | f + 1, g + 1, s, h1, h2, h => by
    by_cases h0 : s = []
    · subst h0; exact fine_nil _
    · rw [fine_cons h0] at h ⊢
      exact ⟨h.1, fine_fuel f g _ (drop_short h1) (drop_short h2) h.2⟩
theorem check_fine (s : List UInt8) : checkL s = none ↔ fineF s.length s := by
  unfold checkL unitsL fineF
  rw [List.find?_eq_none]
  simp
theorem bad_ill {r n : Nat} (h : badU r n = false) : illU r n = false := by unfold badU at h; rw [Bool.or_eq_false_iff] at h; exact h.1
theorem fine_app : ∀ (f : Nat) (s m : List UInt8) (g : Nat), s.length ≤ f → (s ++ m).length ≤ g → fineF f s → fineF m.length m → fineF g (s ++ m)
  | 0, s, m, g, h1, h2, h, hm => by
    have : s = [] := List.length_eq_zero_iff.1 (by omega)
    subst this
    rw [List.nil_append] at h2 ⊢
    exact fine_fuel _ _ _ (Nat.le_refl _) h2 hm
  | f + 1, s, m, g, h1, h2, h, hm => by
    by_cases h0 : s = []
    · subst h0
      rw [List.nil_append] at h2 ⊢
      exact fine_fuel _ _ _ (Nat.le_refl _) h2 hm
    · rw [fine_cons h0] at h
      have hne : s ++ m ≠ [] := by intro e; exact h0 (List.append_eq_nil_iff.1 e).1
      have hd := dec_app s m h0 (bad_ill h.1)
      have hw := (dec_w s).2.2 h0
      rcases g with _ | g
      · have := List.length_pos_iff.2 hne; omega
      rw [fine_cons hne, hd, drop_app hw]
      refine ⟨h.1, fine_app f _ m g (drop_short h1) ?_ h.2 hm⟩
      rw [← drop_app hw, ← hd]
      exact drop_short h2

/-- a token some lines below -/
def shT (d : Int) (t : TokD) : TokD := ⟨t.kind, t.text, t.line + d, t.col⟩
def ScanR.ext (A : List TokD) (d : Int) : ScanR → ScanR → Prop
  | .good l, r => r = .good (A ++ l.map (shT d))
  | .bad _, _ => True
theorem scan_shift (A : List TokD) (d : Int) : ∀ (f : Nat) (s : List UInt8) (sk : Nat) (L C : Int) (acc : List TokD), (scanF f s sk (L, C) acc).ext A d (scanF f s sk (L + d, C) (A ++ acc.map (shT d)))
  | 0, s, sk, L, C, acc => by
    show scanF 0 s sk (L + d, C) _ = _
    simp [scanF, endTok, shT]
  | f + 1, s, sk, L, C, acc => by
    by_cases h0 : s = []
    · subst h0
      rw [scan_nil, scan_nil]
      show ScanR.good _ = _
      simp [endTok, shT]
    · have hp : ∀ r, ∃ L' C', nextP (L, C) r = (L', C') ∧ nextP (L + d, C) r = (L' + d, C') := fun r => by
        unfold nextP
        split
        · exact ⟨_, _, rfl, by simp only; congr 1; omega⟩
        · exact ⟨_, _, rfl, rfl⟩
      obtain ⟨L', C', p1, p2⟩ := hp (decL s).1
      rw [scan_step h0, scan_step h0, p1, p2]
      split
      · cases tokR s with
        | bad e => trivial
        | good k t n =>
          have := scan_shift A d f (s.drop (decL s).2) (n - (decL s).2) L' C' (acc ++ [⟨k, t, L, C⟩])
          rw [List.map_append, ← List.append_assoc] at this
          exact this
      · exact scan_shift A d f (s.drop (decL s).2) (sk - (decL s).2) L' C' acc

/-- the first text's tokens, then the second's -/
theorem scan_app : ∀ (f : Nat) (s m : List UInt8) (g sk : Nat) (p : Int × Int) (acc l : List TokD), s.length ≤ f → (s ++ 10 :: m).length ≤ g → fineF f s → sk ≤ s.length → scanF f s sk p acc = .good l →
    ∃ T, l = T ++ [endTok (endF f s p)] ∧ scanF g (s ++ 10 :: m) sk p acc = scanF (m.length + 1) (10 :: m) 0 (endF f s p) T
  | 0, s, m, g, sk, p, acc, l, h1, h2, hf, hsk, h => by
    have : s = [] := List.length_eq_zero_iff.1 (by omega)
    subst this
    rw [scan_nil] at h
    cases h
    have : sk = 0 := by simpa using hsk
    subst this
    refine ⟨acc, rfl, ?_⟩
    rw [List.nil_append] at h2 ⊢
    exact scan_fuel _ _ _ _ _ _ h2 (by simp)
  | f + 1, s, m, g, sk, p, acc, l, h1, h2, hf, hsk, h => by
    by_cases h0 : s = []
    · subst h0
      rw [scan_nil] at h
      cases h
      have : sk = 0 := by simpa using hsk
      subst this
      refine ⟨acc, by simp [endF], ?_⟩
      rw [List.nil_append] at h2 ⊢
      rw [show endF (f + 1) [] p = p by simp [endF]]
      exact scan_fuel _ _ _ _ _ _ h2 (by simp)
    · rw [fine_cons h0] at hf
      have hill := bad_ill hf.1
      have hne : s ++ 10 :: m ≠ [] := by simp
      have hd := dec_app s (10 :: m) h0 hill
      have hw := (dec_w s).2.2 h0
      have hw1 := (dec_w s).1
      rcases g with _ | g
      · have := List.length_pos_iff.2 hne; omega
      have he : endF (f + 1) s p = endF f (s.drop (decL s).2) (nextP p (decL s).1) := by
        show (if s = [] then p else _) = _
        rw [if_neg h0]
      have h3 : (s.drop (decL s).2 ++ 10 :: m).length ≤ g := by
        rw [← drop_app hw, ← hd]; exact drop_short h2
      rw [scan_step h0] at h
      rw [scan_step hne, hd, drop_app hw, he]
      by_cases hc : sk = 0 ∧ blankU (decL s).1 = false
      · rw [if_pos hc] at h ⊢
        cases ht : tokR s with
        | bad e => rw [ht] at h; cases h
        | good k t n =>
          rw [ht] at h
          rw [tok_app s m h0 hill ht]
          simp only at h ⊢
          exact scan_app f _ m g _ _ _ l (drop_short h1) h3 hf.2 (by rw [List.length_drop]; have := tok_n s h0 ht; omega) h
      · rw [if_neg hc] at h ⊢
        exact scan_app f _ m g _ _ _ l (drop_short h1) h3 hf.2 (by rw [List.length_drop]; omega) h
end Go.Proofs.YtmifjfohanegiaaGreatDoor
