/-
  Plain facts on rules: what is left takes the same frames. (No program here.)
-/
import Derived.Test.YtflghgilcooiiaaDoorFilterM
import Derived.Test.YtflghgilcooiiaaDoorFilterA
namespace Go.Proofs.YtflghgilcooiiaaDoor
set_option linter.unusedVariables false

theorem takes_iff (r : RuleD) (hr : okRule r) (wide : Bool) (id : Nat) (hid : id < 4294967296) : takesR r wide id = true ↔ r.wide = wide ∧ ∀ i, i < 32 → ¬ ((id.testBit i ^^ r.code.testBit i) = true ∧ r.mask.testBit i = true) := by
  unfold takesR
  rw [Bool.and_eq_true, beq_iff_eq, beq_iff_eq, and_zero _ _ (Nat.xor_lt_two_pow (n := 32) hid hr.1)]
  simp only [Nat.testBit_xor]

theorem covers_takes (r s : RuleD) (hr : okRule r) (hs : okRule s) (wide : Bool) (id : Nat) (hid : id < 4294967296) (hin : id &&& idsN wide = id) (hc : coversR r s = true) (ht : takesR s wide id = true) : takesR r wide id = true := by
  rw [takes_iff _ hs _ _ hid] at ht
  rw [takes_iff _ hr _ _ hid]
  obtain ⟨hw, hb⟩ := ht
  have hz : ∀ i, (idsN wide).testBit i = false → id.testBit i = false := by
    intro i hi
    rw [← hin, Nat.testBit_and, hi, Bool.and_false]
  unfold coversR at hc
  rw [hw] at hc
  rw [Bool.or_eq_true, List.any_eq_true, Bool.and_eq_true, List.all_eq_true, beq_iff_eq] at hc
  rcases hc with ⟨i, hi, ho⟩ | ⟨he, ha⟩
  · have h1 := hb i (List.mem_range.1 hi)
    unfold outB at ho
    have h2 := hz i
    cases g1 : (idsN wide).testBit i <;> cases g2 : s.mask.testBit i <;> cases g3 : s.code.testBit i <;> simp_all
  · refine ⟨he, fun i hi => ?_⟩
    have h1 := hb i hi
    have h2 := hz i
    have h3 := ha i (List.mem_range.2 hi)
    unfold fitB at h3
    cases g1 : (idsN wide).testBit i <;> cases g2 : s.mask.testBit i <;> cases g3 : s.code.testBit i <;> cases g4 : r.mask.testBit i <;> cases g5 : r.code.testBit i <;> cases g6 : id.testBit i <;> simp_all

theorem coversR_trans (a b c : RuleD) (h1 : coversR a b = true) (h2 : coversR b c = true) : coversR a c = true := by
  unfold coversR at h1 h2 ⊢
  rw [Bool.or_eq_true, Bool.and_eq_true, beq_iff_eq] at h1 h2 ⊢
  rcases h2 with h2 | ⟨w2, f2⟩
  · exact .inl h2
  rw [List.all_eq_true] at f2
  rcases h1 with h1 | ⟨w1, f1⟩
  · exfalso
    rw [List.any_eq_true] at h1
    obtain ⟨i, hi, ho⟩ := h1
    have hf := f2 i hi
    unfold outB at ho
    unfold fitB at hf
    rw [w2] at ho
    cases g1 : (idsN c.wide).testBit i <;> cases g2 : b.mask.testBit i <;> cases g3 : b.code.testBit i <;> simp_all
  · right
    refine ⟨w1.trans w2, ?_⟩
    rw [List.all_eq_true] at f1 ⊢
    intro i hi
    have hf := f1 i hi
    have hg := f2 i hi
    unfold fitB at hf hg ⊢
    rw [w2] at hf
    cases g1 : (idsN c.wide).testBit i <;> cases g2 : b.mask.testBit i <;> cases g3 : b.code.testBit i <;> cases g4 : a.mask.testBit i <;> cases g5 : a.code.testBit i <;> cases g6 : c.mask.testBit i <;> cases g7 : c.code.testBit i <;> simp_all

/-- k is held before i -/
def befR (l : List RuleD) (i k : Nat) : Bool := decide (k ≠ i) && coversR (l.getD k default) (l.getD i default) && (decide (k < i) || !coversR (l.getD i default) (l.getD k default))
theorem bef_trans (l : List RuleD) (x k i : Nat) (h1 : befR l k x = true) (h2 : befR l i k = true) : befR l i x = true := by
  unfold befR at *
  simp only [Bool.and_eq_true, Bool.or_eq_true, decide_eq_true_eq, Bool.not_eq_true'] at *
  obtain ⟨⟨n1, c1⟩, o1⟩ := h1
  obtain ⟨⟨n2, c2⟩, o2⟩ := h2
  have c3 := coversR_trans _ _ _ c1 c2
  have o3 : x < i ∨ coversR (l.getD i default) (l.getD x default) = false := by
    cases h : coversR (l.getD i default) (l.getD x default)
    · exact .inr rfl
    · left
      have h3 := coversR_trans _ _ _ c2 h
      have h4 := coversR_trans _ _ _ h c1
      rcases o1 with o1 | o1
      · rcases o2 with o2 | o2
        · omega
        · rw [h4] at o2; cases o2
      · rw [h3] at o1; cases o1
  refine ⟨⟨?_, c3⟩, o3⟩
  rintro rfl
  rcases o1 with o1 | o1
  · rcases o2 with o2 | o2
    · omega
    · rw [c1] at o2; cases o2
  · rw [c2] at o1; cases o1
theorem bef_irrefl (l : List RuleD) (k : Nat) : befR l k k = false := by unfold befR; simp

theorem count_lt {α : Type} (p q : α → Bool) (xs : List α) (h : ∀ x ∈ xs, p x = true → q x = true) (y : α) (hy : y ∈ xs) (h1 : q y = true) (h2 : p y = false) : xs.countP p < xs.countP q := by
  induction xs with
  | nil => cases hy
  | cons x xs ih =>
    have hle : xs.countP p ≤ xs.countP q := List.countP_mono_left fun x hx => h x (by simp [hx])
    rw [List.countP_cons, List.countP_cons]
    rcases List.mem_cons.1 hy with rfl | hy
    · simp [h1, h2]; omega
    · have := ih (fun x hx => h x (by simp [hx])) hy
      have hx := h x (by simp)
      cases hp : p x <;> cases hq : q x <;> simp_all <;> omega

/-- each rule is covered by one that is left -/
theorem left_covers (l : List RuleD) (n : Nat) : ∀ i, i < l.length → (List.range l.length).countP (befR l i) = n → ∃ j, j < l.length ∧ idleR l j = false ∧ (j = i ∨ coversR (l.getD j default) (l.getD i default) = true) := by
  induction n using Nat.strongRecOn with
  | _ n ih =>
    intro i hi hn
    cases hidle : idleR l i
    · exact ⟨i, hi, hidle, .inl rfl⟩
    · have : (List.range l.length).any (befR l i) = true := hidle
      obtain ⟨k, hk, hb⟩ := List.any_eq_true.1 this
      have hk' := List.mem_range.1 hk
      have hlt : (List.range l.length).countP (befR l k) < n := by
        rw [← hn]
        exact count_lt _ _ _ (fun x _ hx => bef_trans l x k i hx hb) k hk hb (bef_irrefl l k)
      obtain ⟨j, hj, h1, h2⟩ := ih _ hlt k hk' rfl
      have hc : coversR (l.getD k default) (l.getD i default) = true := by
        unfold befR at hb
        simp only [Bool.and_eq_true] at hb
        exact hb.1.2
      refine ⟨j, hj, h1, .inr ?_⟩
      rcases h2 with rfl | h2
      · exact hc
      · exact coversR_trans _ _ _ h2 hc

theorem mem_less (l : List RuleD) (r : RuleD) : r ∈ lessN l ↔ ∃ i, i < l.length ∧ idleR l i = false ∧ l.getD i default = r := by
  unfold lessN
  rw [List.mem_filterMap]
  constructor
  · rintro ⟨i, hi, h⟩
    cases hidle : idleR l i
    · rw [hidle] at h
      exact ⟨i, List.mem_range.1 hi, hidle, by simpa using h⟩
    · rw [hidle] at h
      simp at h
  · rintro ⟨i, hi, h1, h2⟩
    exact ⟨i, List.mem_range.2 hi, by rw [h1]; simpa using h2⟩
theorem getD_mem (l : List RuleD) (i : Nat) (h : i < l.length) : l.getD i default ∈ l := by
  rw [show l.getD i default = l[i] by simp [List.getD, h]]
  exact List.getElem_mem h
theorem less_mem (l : List RuleD) (r : RuleD) (h : r ∈ lessN l) : r ∈ l := by
  obtain ⟨i, hi, _, rfl⟩ := (mem_less l r).1 h
  exact getD_mem l i hi
theorem less_nil (l : List RuleD) : (lessN l).length = 0 ↔ l.length = 0 := by
  constructor
  · intro h
    rcases Nat.eq_zero_or_pos l.length with h0 | h0
    · exact h0
    · obtain ⟨j, hj, h1, _⟩ := left_covers l _ 0 h0 rfl
      have : l.getD j default ∈ lessN l := (mem_less l _).2 ⟨j, hj, h1, rfl⟩
      rw [List.length_eq_zero_iff.1 h] at this
      cases this
  · intro h
    rw [List.length_eq_zero_iff.1 h]; rfl
theorem less_takes (l : List RuleD) (hl : ∀ r ∈ l, okRule r) (wide : Bool) (id : Nat) (hid : id < 4294967296) (hin : id &&& idsN wide = id) : takesN (lessN l) wide id = takesN l wide id := by
  unfold takesN
  have h0 : ((lessN l).length == 0) = (l.length == 0) := by
    rw [Bool.eq_iff_iff, beq_iff_eq, beq_iff_eq]; exact less_nil l
  rw [h0]
  congr 1
  rw [Bool.eq_iff_iff, List.any_eq_true, List.any_eq_true]
  constructor
  · rintro ⟨r, hr, h⟩
    exact ⟨r, less_mem l r hr, h⟩
  · rintro ⟨r, hr, h⟩
    obtain ⟨i, hi, rfl⟩ := List.getElem_of_mem hr
    obtain ⟨j, hj, h1, h2⟩ := left_covers l _ i hi rfl
    have hg : l.getD i default = l[i] := by simp [List.getD, hi]
    refine ⟨l.getD j default, (mem_less l _).2 ⟨j, hj, h1, rfl⟩, ?_⟩
    rcases h2 with rfl | h2
    · rw [hg]; exact h
    · rw [hg] at h2
      exact covers_takes _ _ (hl _ (getD_mem l j hj)) (hl _ hr) wide id hid hin h2 h
theorem less_ok (l : List RuleD) (hl : ∀ r ∈ l, okRule r) : ∀ r ∈ lessN l, okRule r := fun r hr => hl r (less_mem l r hr)
theorem less_le (l : List RuleD) : (lessN l).length ≤ l.length := by
  unfold lessN
  exact Nat.le_trans (List.length_filterMap_le _ _) (by simp)
end Go.Proofs.YtflghgilcooiiaaDoor
