/-
  Plain facts on rules: of two that are left, the one takes what the other doesn't. (No program here.)
-/
import Derived.Test.YtflghgilcooiiaaDoorFilterN
import Derived.Test.YtflghgilcooiiaaDoorFilterG
namespace Go.Proofs.YtflghgilcooiiaaDoor
set_option linter.unusedVariables false

def apartId (a : RuleD) : Nat := frameId (a.code &&& a.mask) a.wide
def turnedId (a : RuleD) (i : Nat) : Nat := frameId (apartId a ^^^ 2 ^ i) a.wide
def apartAt (a b : RuleD) (i : Nat) : Bool := takesR a a.wide (turnedId a i) && !takesR b a.wide (turnedId a i)
def apartN (a b : RuleD) : Bool := takesR a a.wide (apartId a) && (!takesR b a.wide (apartId a) || (List.range 32).any (apartAt a b))

theorem takesN_one (a : RuleD) (wide : Bool) (id : Nat) : takesN [a] wide id = takesR a wide id := by
  unfold takesN
  simp

theorem apartId_lt (a : RuleD) : apartId a < 4294967296 := Nat.lt_of_le_of_lt Nat.and_le_right (Nat.lt_trans (idsN_lt _) (by decide))
theorem turnedId_lt (a : RuleD) (i : Nat) : turnedId a i < 4294967296 := Nat.lt_of_le_of_lt Nat.and_le_right (Nat.lt_trans (idsN_lt _) (by decide))
theorem turned_bit (a : RuleD) (i j : Nat) : (turnedId a i).testBit j = (((apartId a).testBit j ^^ decide (i = j)) && (idsN a.wide).testBit j) := by
  unfold turnedId frameId
  rw [Nat.testBit_and, Nat.testBit_xor, Nat.testBit_two_pow]
theorem apart_bit (a : RuleD) (j : Nat) : (apartId a).testBit j = ((a.code.testBit j && a.mask.testBit j) && (idsN a.wide).testBit j) := by
  unfold apartId frameId
  rw [Nat.testBit_and, Nat.testBit_and]

theorem apart_of (a b : RuleD) (ha : okRule a) (hb : okRule b) (h : coversR b a = false) : apartN a b = true := by
  unfold coversR at h
  rw [Bool.or_eq_false_iff, List.any_eq_false] at h
  obtain ⟨h1, h2⟩ := h
  have ta : takesR a a.wide (apartId a) = true := by
    rw [takes_iff a ha _ _ (apartId_lt a)]
    refine ⟨rfl, fun j hj hh => ?_⟩
    have := h1 j (List.mem_range.2 hj)
    rw [apart_bit] at hh
    unfold outB at this
    cases g1 : (idsN a.wide).testBit j <;> cases g2 : a.mask.testBit j <;> cases g3 : a.code.testBit j <;> simp_all
  unfold apartN
  rw [ta, Bool.true_and]
  cases tb : takesR b a.wide (apartId a)
  · rfl
  · rw [takes_iff b hb _ _ (apartId_lt a)] at tb
    obtain ⟨hw, hbits⟩ := tb
    rw [hw] at h2
    have h3 : (List.range 32).all (fitB (idsN a.wide) b a) = false := by simpa using h2
    rw [List.all_eq_false] at h3
    obtain ⟨i, hi, hfit⟩ := h3
    have hi' := List.mem_range.1 hi
    have hbi := hbits i hi'
    rw [apart_bit] at hbi
    unfold fitB at hfit
    have hids : (idsN a.wide).testBit i = true := by
      cases g1 : (idsN a.wide).testBit i
      · cases g2 : b.mask.testBit i <;> cases g3 : b.code.testBit i <;> simp_all
      · rfl
    have hbm : b.mask.testBit i = true := by
      cases g2 : b.mask.testBit i
      · simp_all
      · rfl
    have ham : a.mask.testBit i = false := by
      cases g4 : a.mask.testBit i
      · rfl
      · cases g3 : b.code.testBit i <;> cases g5 : a.code.testBit i <;> simp_all
    have hbc : b.code.testBit i = false := by
      cases g3 : b.code.testBit i
      · rfl
      · simp_all
    rw [Bool.not_true, Bool.false_or, List.any_eq_true]
    refine ⟨i, hi, ?_⟩
    unfold apartAt
    have t1 : takesR a a.wide (turnedId a i) = true := by
      rw [takes_iff a ha _ _ (turnedId_lt a i)]
      refine ⟨rfl, fun j hj hh => ?_⟩
      have hne : i ≠ j := by
        intro e
        subst e
        rw [ham] at hh
        exact absurd hh.2 (by decide)
      rw [turned_bit, apart_bit] at hh
      have := h1 j (List.mem_range.2 hj)
      unfold outB at this
      cases g1 : (idsN a.wide).testBit j <;> cases g2 : a.mask.testBit j <;> cases g3 : a.code.testBit j <;> simp_all
    have t2 : takesR b a.wide (turnedId a i) = false := by
      cases ht : takesR b a.wide (turnedId a i)
      · rfl
      · rw [takes_iff b hb _ _ (turnedId_lt a i)] at ht
        have := ht.2 i hi'
        rw [turned_bit, apart_bit, ham, hids, hbc, hbm] at this
        simp at this
    rw [t1, t2]
    rfl

/-- of two that are left neither covers the other -/
theorem less_free (l : List RuleD) : (lessN l).Pairwise (fun a b => coversR a b = false ∧ coversR b a = false) := by
  unfold lessN
  rw [List.pairwise_filterMap]
  refine List.Pairwise.imp_of_mem ?_ (List.pairwise_lt_range (n := l.length))
  intro i k hi hk hik a ha b hb
  have hi' := List.mem_range.1 hi
  have hk' := List.mem_range.1 hk
  have hii : idleR l i = false := by
    cases h : idleR l i
    · rfl
    · rw [h] at ha; simp at ha
  have hkk : idleR l k = false := by
    cases h : idleR l k
    · rfl
    · rw [h] at hb; simp at hb
  rw [hii] at ha
  rw [hkk] at hb
  simp only [Bool.false_eq_true, if_false, Option.some.injEq] at ha hb
  subst ha hb
  unfold idleR at hii hkk
  rw [List.any_eq_false] at hii hkk
  have q1 := hii k hk
  have q2 := hkk i hi
  have e1 : decide (k ≠ i) = true := by simp; omega
  have e2 : decide (i ≠ k) = true := by simp; omega
  have e3 : decide (i < k) = true := by simpa using hik
  rw [e1] at q1
  rw [e2, e3] at q2
  cases c1 : coversR (l.getD k default) (l.getD i default) <;> cases c2 : coversR (l.getD i default) (l.getD k default) <;> simp_all

theorem less_apart (l : List RuleD) (i k : Nat) (hi : i < (lessN l).length) (hk : k < (lessN l).length) (h : i ≠ k) : coversR (lessN l)[k] (lessN l)[i] = false := by
  have hp := less_free l
  rw [List.pairwise_iff_getElem] at hp
  rcases Nat.lt_or_gt_of_ne h with h1 | h1
  · exact (hp i k hi hk h1).2
  · exact (hp k i hk hi h1).1

theorem filterMap_congr' {α β : Type} {f g : α → Option β} : ∀ (l : List α), (∀ x ∈ l, f x = g x) → l.filterMap f = l.filterMap g
  | [], _ => rfl
  | a :: l, h => by
    rw [List.filterMap_cons, List.filterMap_cons, h a (by simp), filterMap_congr' l (fun x hx => h x (by simp [hx]))]
theorem range_getD (l : List RuleD) : (List.range l.length).filterMap (fun i => some (l.getD i default)) = l := by
  rw [show (fun i => some (l.getD i default)) = some ∘ (fun i => l.getD i default) from rfl, List.filterMap_eq_map]
  refine List.ext_getElem (by simp) fun i h1 h2 => ?_
  simp [List.getD, h2]
theorem less_again (l : List RuleD) : lessN (lessN l) = lessN l := by
  have h := less_apart l
  generalize lessN l = m at *
  have e : (List.range m.length).filterMap (fun i => if idleR m i then none else some (m.getD i default)) = (List.range m.length).filterMap (fun i => some (m.getD i default)) := by
    refine filterMap_congr' _ fun i hi => ?_
    have hi' := List.mem_range.1 hi
    have : idleR m i = false := by
      unfold idleR
      rw [List.any_eq_false]
      intro k hk
      have hk' := List.mem_range.1 hk
      by_cases hne : k = i
      · simp [hne]
      · have := h i k hi' hk' (Ne.symm hne)
        rw [show m.getD k default = m[k] by simp [List.getD, hk'], show m.getD i default = m[i] by simp [List.getD, hi'], this]
        simp
    rw [this]
    rfl
  show (List.range m.length).filterMap _ = m
  rw [e]
  exact range_getD m

theorem coversR_refl (a : RuleD) : coversR a a = true := by
  unfold coversR
  cases h : (List.range 32).any (outB (idsN a.wide) a)
  · rw [List.any_eq_false] at h
    rw [Bool.false_or, beq_self_eq_true, Bool.true_and, List.all_eq_true]
    intro i hi
    have := h i hi
    unfold outB at this
    unfold fitB
    cases g1 : (idsN a.wide).testBit i <;> cases g2 : a.mask.testBit i <;> cases g3 : a.code.testBit i <;> simp_all
  · rfl

theorem less_twice (l : List RuleD) : lessN (l ++ l) = lessN l := by
  have hg1 : ∀ i, i < l.length → (l ++ l).getD i default = l.getD i default := fun i hi => by simp [List.getD, List.getElem?_append_left hi]
  have hg2 : ∀ i, (l ++ l).getD (l.length + i) default = l.getD i default := fun i => by simp [List.getD, List.getElem?_append_right]
  unfold lessN
  rw [List.length_append, List.range_add, List.filterMap_append, List.filterMap_map]
  have e2 : (List.range l.length).filterMap ((fun i => if idleR (l ++ l) i then none else some ((l ++ l).getD i default)) ∘ fun x => l.length + x) = [] := by
    rw [List.filterMap_eq_nil_iff]
    intro i hi
    have hi' := List.mem_range.1 hi
    have : idleR (l ++ l) (l.length + i) = true := by
      unfold idleR
      rw [List.any_eq_true]
      refine ⟨i, List.mem_range.2 (by rw [List.length_append]; omega), ?_⟩
      rw [hg1 i hi', hg2, coversR_refl]
      have q1 : decide (i ≠ l.length + i) = true := decide_eq_true (by omega)
      have q2 : decide (i < l.length + i) = true := decide_eq_true (by omega)
      rw [q1, q2]; rfl
    simp [this]
  rw [e2, List.append_nil]
  refine filterMap_congr' _ fun i hi => ?_
  have hi' := List.mem_range.1 hi
  have : idleR (l ++ l) i = idleR l i := by
    rw [Bool.eq_iff_iff]
    unfold idleR
    rw [List.any_eq_true, List.any_eq_true, hg1 i hi']
    constructor
    · rintro ⟨k, hk, h⟩
      rw [List.mem_range, List.length_append] at hk
      by_cases hkl : k < l.length
      · exact ⟨k, List.mem_range.2 hkl, by rw [hg1 k hkl] at h; exact h⟩
      · obtain ⟨q, rfl⟩ : ∃ q, k = l.length + q := ⟨k - l.length, by omega⟩
        rw [hg2] at h
        have hq : q < l.length := by omega
        have q1 : decide (l.length + q < i) = false := decide_eq_false (by omega)
        rw [q1, Bool.false_or] at h
        rw [Bool.and_eq_true, Bool.and_eq_true] at h
        by_cases hqi : q = i
        · subst hqi
          rw [coversR_refl] at h
          exact absurd h.2 (by decide)
        · exact ⟨q, List.mem_range.2 hq, by rw [h.1.2, h.2]; simp [hqi]⟩
    · rintro ⟨k, hk, h⟩
      have hk' := List.mem_range.1 hk
      exact ⟨k, List.mem_range.2 (by rw [List.length_append]; omega), by rw [hg1 k hk']; exact h⟩
  rw [this, hg1 i hi']
end Go.Proofs.YtflghgilcooiiaaDoor
