/-
  Plain facts on rules: the program's way to hold them against each other (plain, covers) and the document's (bit by bit) agree. (No program here.)
-/
import Derived.Test.YtflghgilcooiiaaDoorListRule
namespace Go.Proofs.YtflghgilcooiiaaDoor
set_option linter.unusedVariables false

def idsN (wide : Bool) : Nat := if wide then 536870911 else 2047
def noneR : RuleD := ⟨false, 2147483648, 2147483648⟩
/-- the program's plain -/
def plainR (r : RuleD) : RuleD :=
  if (r.code &&& r.mask) &&& (4294967295 - idsN r.wide) = 0 then ⟨r.wide, r.code &&& (r.mask &&& idsN r.wide), r.mask &&& idsN r.wide⟩ else noneR
/-- the program's covers -/
def coversP (r s : RuleD) : Bool :=
  if r = s ∨ s = noneR then true
  else decide (r ≠ noneR) && ((r.wide == s.wide) && (decide (r.mask &&& (4294967295 - s.mask) = 0) && decide ((r.code ^^^ s.code) &&& r.mask = 0)))

/-- a bit of the reference's answer: outside the identifiers -/
def outB (ids : Nat) (s : RuleD) (i : Nat) : Bool := !ids.testBit i && (s.mask.testBit i && s.code.testBit i)
def fitB (ids : Nat) (r s : RuleD) (i : Nat) : Bool :=
  if ids.testBit i then !r.mask.testBit i || (s.mask.testBit i && (r.code.testBit i == s.code.testBit i)) else !r.mask.testBit i || !r.code.testBit i
def coversR (r s : RuleD) : Bool := (List.range 32).any (outB (idsN s.wide) s) || ((r.wide == s.wide) && (List.range 32).all (fitB (idsN s.wide) r s))

theorem and_zero (x y : Nat) (hx : x < 4294967296) : x &&& y = 0 ↔ ∀ i, i < 32 → ¬ (x.testBit i = true ∧ y.testBit i = true) := by
  constructor
  · intro h i hi hh
    have := congrArg (fun n => n.testBit i) h
    simp [Nat.testBit_and, hh.1, hh.2] at this
  · intro h
    apply Nat.eq_of_testBit_eq
    intro i
    rw [Nat.testBit_and, Nat.zero_testBit]
    by_cases hi : i < 32
    · have := h i hi
      cases hx' : x.testBit i <;> cases hy : y.testBit i <;> simp_all
    · have : x.testBit i = false := Nat.testBit_lt_two_pow (Nat.lt_of_lt_of_le hx (Nat.pow_le_pow_right (by decide : 2 > 0) (show 32 ≤ i by omega)))
      rw [this]; rfl
theorem compl_bit (x i : Nat) (hx : x < 4294967296) (hi : i < 32) : (4294967295 - x).testBit i = !x.testBit i := by
  have h := Nat.testBit_two_pow_sub_succ (n := 32) (x := x) hx i
  rw [show 2 ^ 32 - (x + 1) = 4294967295 - x by omega] at h
  rw [h, decide_eq_true hi, Bool.true_and]
theorem idsN_lt (b : Bool) : idsN b < 536870912 := by cases b <;> decide

theorem possible_iff (r : RuleD) (hr : okRule r) : ((r.code &&& r.mask) &&& (4294967295 - idsN r.wide) = 0) ↔ (List.range 32).any (outB (idsN r.wide) r) = false := by
  have hlt : r.code &&& r.mask < 4294967296 := Nat.lt_of_le_of_lt Nat.and_le_left hr.1
  have hid : idsN r.wide < 4294967296 := Nat.lt_trans (idsN_lt _) (by decide)
  rw [and_zero _ _ hlt, List.any_eq_false]
  constructor
  · intro h i hi
    have hi' := List.mem_range.1 hi
    have := h i hi'
    rw [compl_bit _ i hid hi', Nat.testBit_and] at this
    unfold outB
    cases h1 : (idsN r.wide).testBit i <;> cases h2 : r.mask.testBit i <;> cases h3 : r.code.testBit i <;> simp_all
  · intro h i hi hh
    have := h i (List.mem_range.2 hi)
    rw [compl_bit _ i hid hi, Nat.testBit_and] at hh
    unfold outB at this
    cases h1 : (idsN r.wide).testBit i <;> cases h2 : r.mask.testBit i <;> cases h3 : r.code.testBit i <;> simp_all

theorem plain_ne_none (r : RuleD) (h : (r.code &&& r.mask) &&& (4294967295 - idsN r.wide) = 0) : plainR r ≠ noneR := by
  unfold plainR
  rw [if_pos h]
  intro e
  have h2 := congrArg RuleD.mask e
  have h3 : r.mask &&& idsN r.wide ≤ idsN r.wide := Nat.and_le_right
  have h4 := idsN_lt r.wide
  simp only [noneR] at h2
  omega

theorem covers_eq (r s : RuleD) (hr : okRule r) (hs : okRule s) : coversP (plainR r) (plainR s) = coversR r s := by
  by_cases ps : (s.code &&& s.mask) &&& (4294967295 - idsN s.wide) = 0
  · have qs := (possible_iff s hs).1 ps
    have nes := plain_ne_none s ps
    unfold coversR
    rw [qs, Bool.false_or]
    by_cases pr : (r.code &&& r.mask) &&& (4294967295 - idsN r.wide) = 0
    · have ner := plain_ne_none r pr
      have es : plainR s = ⟨s.wide, s.code &&& (s.mask &&& idsN s.wide), s.mask &&& idsN s.wide⟩ := by unfold plainR; rw [if_pos ps]
      have er : plainR r = ⟨r.wide, r.code &&& (r.mask &&& idsN r.wide), r.mask &&& idsN r.wide⟩ := by unfold plainR; rw [if_pos pr]
      have qr := (possible_iff r hr).1 pr
      -- the long form alone decides: equal rules meet it too
      have key : coversP (plainR r) (plainR s) = ((r.wide == s.wide) && (decide ((r.mask &&& idsN r.wide) &&& (4294967295 - (s.mask &&& idsN s.wide)) = 0) && decide (((r.code &&& (r.mask &&& idsN r.wide)) ^^^ (s.code &&& (s.mask &&& idsN s.wide))) &&& (r.mask &&& idsN r.wide) = 0))) := by
        unfold coversP
        rw [decide_eq_true ner, Bool.true_and]
        by_cases e : plainR r = plainR s
        · rw [if_pos (.inl e)]
          rw [er, es] at e
          simp only [RuleD.mk.injEq] at e
          obtain ⟨e1, e2, e3⟩ := e
          rw [e1, ← e2, ← e3, e1, Nat.xor_self, Nat.zero_and]
          have h1 : r.mask &&& idsN s.wide < 4294967296 := Nat.lt_of_le_of_lt Nat.and_le_left hr.2
          have h2 : (r.mask &&& idsN s.wide) &&& (4294967295 - (r.mask &&& idsN s.wide)) = 0 := by
            rw [and_zero _ _ h1]
            intro i hi hh
            rw [compl_bit _ i h1 hi] at hh
            obtain ⟨q1, q2⟩ := hh
            rw [q1] at q2
            cases q2
          rw [h2]
          simp
        · rw [if_neg (by intro h; exact h.elim e nes), er, es]
      rw [key]
      by_cases ew : r.wide = s.wide
      · rw [ew]
        have h1 : r.mask &&& idsN s.wide < 4294967296 := Nat.lt_of_le_of_lt Nat.and_le_left hr.2
        have h2 : s.mask &&& idsN s.wide < 4294967296 := Nat.lt_of_le_of_lt Nat.and_le_left hs.2
        have h3 : (r.code &&& (r.mask &&& idsN s.wide)) ^^^ (s.code &&& (s.mask &&& idsN s.wide)) < 4294967296 :=
          Nat.xor_lt_two_pow (n := 32) (Nat.lt_of_le_of_lt Nat.and_le_left hr.1) (Nat.lt_of_le_of_lt Nat.and_le_left hs.1)
        rw [ew] at qr
        simp only [beq_self_eq_true, Bool.true_and]
        rw [Bool.eq_iff_iff, Bool.and_eq_true, decide_eq_true_eq, decide_eq_true_eq, and_zero _ _ h1, and_zero _ _ h3, List.all_eq_true]
        rw [List.any_eq_false] at qr
        constructor
        · rintro ⟨ha, hb⟩ i hi
          have hi' := List.mem_range.1 hi
          have ha' := ha i hi'
          have hb' := hb i hi'
          have hq := qr i hi
          rw [compl_bit _ i h2 hi'] at ha'
          simp only [Nat.testBit_and, Nat.testBit_xor] at ha' hb'
          unfold fitB
          unfold outB at hq
          cases g1 : (idsN s.wide).testBit i <;> cases g2 : r.mask.testBit i <;> cases g3 : r.code.testBit i <;> cases g4 : s.mask.testBit i <;> cases g5 : s.code.testBit i <;> simp_all
        · intro h
          constructor
          all_goals
            intro i hi hh
            have h' := h i (List.mem_range.2 hi)
            unfold fitB at h'
            first | rw [compl_bit _ i h2 hi] at hh | skip
            simp only [Nat.testBit_and, Nat.testBit_xor] at hh
            cases g1 : (idsN s.wide).testBit i <;> cases g2 : r.mask.testBit i <;> cases g3 : r.code.testBit i <;> cases g4 : s.mask.testBit i <;> cases g5 : s.code.testBit i <;> simp_all
      · have : (r.wide == s.wide) = false := by simpa using ew
        rw [this, Bool.false_and, Bool.false_and]
    · have er : plainR r = noneR := by unfold plainR; rw [if_neg pr]
      have h1 : coversP (plainR r) (plainR s) = false := by
        unfold coversP
        rw [er, if_neg (fun h => h.elim (fun h => nes h.symm) (fun h => nes h))]
        simp
      rw [h1]
      by_cases ew : r.wide = s.wide
      · have qr : (List.range 32).any (outB (idsN r.wide) r) = true := by
          cases h : (List.range 32).any (outB (idsN r.wide) r)
          · exact absurd ((possible_iff r hr).2 h) pr
          · rfl
        obtain ⟨i, hi, ho⟩ := List.any_eq_true.1 qr
        have : (List.range 32).all (fitB (idsN s.wide) r s) = false := by
          rw [List.all_eq_false]
          refine ⟨i, hi, ?_⟩
          rw [← ew]
          unfold outB at ho
          unfold fitB
          cases g1 : (idsN r.wide).testBit i <;> cases g2 : r.mask.testBit i <;> cases g3 : r.code.testBit i <;> simp_all
        rw [this, Bool.and_false]
      · have : (r.wide == s.wide) = false := by simpa using ew
        rw [this, Bool.false_and]
  · have es : plainR s = noneR := by unfold plainR; rw [if_neg ps]
    have h1 : coversP (plainR r) (plainR s) = true := by unfold coversP; rw [if_pos (.inr es)]
    have h2 : (List.range 32).any (outB (idsN s.wide) s) = true := by
      cases h : (List.range 32).any (outB (idsN s.wide) s)
      · exact absurd ((possible_iff s hs).2 h) ps
      · rfl
    rw [h1]
    unfold coversR
    rw [h2, Bool.true_or]

/-- two that cover each other are the same -/
theorem covers_anti (r s : RuleD) (hr : okRule r) (hs : okRule s) (h1 : coversP (plainR r) (plainR s) = true) (h2 : coversP (plainR s) (plainR r) = true) : plainR r = plainR s := by
  by_cases e : plainR r = plainR s
  · exact e
  exfalso
  have long : ∀ a b : RuleD, a ≠ b → b ≠ noneR → coversP a b = true → a.wide = b.wide ∧ a.mask &&& (4294967295 - b.mask) = 0 ∧ (a.code ^^^ b.code) &&& a.mask = 0 := by
    intro a b hab hb h
    unfold coversP at h
    rw [if_neg (fun h => h.elim hab hb)] at h
    simp only [Bool.and_eq_true, decide_eq_true_eq, beq_iff_eq] at h
    exact ⟨h.2.1, h.2.2.1, h.2.2.2⟩
  have isnone : ∀ a : RuleD, a ≠ noneR → coversP noneR a = false := by
    intro a ha
    unfold coversP
    rw [if_neg (fun h => h.elim (fun h => ha h.symm) ha)]
    simp
  by_cases ns : plainR s = noneR
  · rw [ns] at h2 e
    rw [isnone _ e] at h2
    cases h2
  by_cases nr : plainR r = noneR
  · rw [nr] at h1 e
    rw [isnone _ (fun h => e h.symm)] at h1
    cases h1
  have shape : ∀ a : RuleD, plainR a ≠ noneR → plainR a = ⟨a.wide, a.code &&& (a.mask &&& idsN a.wide), a.mask &&& idsN a.wide⟩ := by
    intro a ha
    unfold plainR at ha ⊢
    split
    · rfl
    · rename_i hp
      rw [if_neg hp] at ha
      exact absurd rfl ha
  obtain ⟨w1, m1, c1⟩ := long _ _ e ns h1
  obtain ⟨w2, m2, c2⟩ := long _ _ (fun h => e h.symm) nr h2
  rw [shape r nr, shape s ns] at w1 m1 c1 m2 c2 e
  simp only at w1 m1 c1 m2 c2
  have b1 : r.mask &&& idsN r.wide < 4294967296 := Nat.lt_of_le_of_lt Nat.and_le_left hr.2
  have b2 : s.mask &&& idsN s.wide < 4294967296 := Nat.lt_of_le_of_lt Nat.and_le_left hs.2
  have hr1 := hr.1
  have hs1 := hs.1
  clear ns nr long isnone h1 h2 shape
  generalize r.mask &&& idsN r.wide = M1 at *
  generalize s.mask &&& idsN s.wide = M2 at *
  generalize r.code = C1 at *
  generalize s.code = C2 at *
  have b3 : (C1 &&& M1) ^^^ (C2 &&& M2) < 4294967296 :=
    Nat.xor_lt_two_pow (n := 32) (Nat.lt_of_le_of_lt Nat.and_le_left hr1) (Nat.lt_of_le_of_lt Nat.and_le_left hs1)
  rw [and_zero _ _ b1] at m1
  rw [and_zero _ _ b2] at m2
  rw [and_zero _ _ b3] at c1
  have high : ∀ x i : Nat, x < 4294967296 → ¬ i < 32 → x.testBit i = false := fun x i hx hi => Nat.testBit_lt_two_pow (Nat.lt_of_lt_of_le hx (Nat.pow_le_pow_right (by decide : 2 > 0) (show 32 ≤ i by omega)))
  have em : M1 = M2 := by
    apply Nat.eq_of_testBit_eq
    intro i
    by_cases hi : i < 32
    · have q1 := m1 i hi
      have q2 := m2 i hi
      rw [compl_bit _ i b2 hi] at q1
      rw [compl_bit _ i b1 hi] at q2
      cases g1 : M1.testBit i <;> cases g2 : M2.testBit i <;> simp_all
    · rw [high _ i b1 hi, high _ i b2 hi]
  subst em
  have ec : C1 &&& M1 = C2 &&& M1 := by
    apply Nat.eq_of_testBit_eq
    intro i
    by_cases hi : i < 32
    · have q1 := c1 i hi
      rw [Nat.testBit_xor, Nat.testBit_and, Nat.testBit_and] at q1
      rw [Nat.testBit_and, Nat.testBit_and]
      clear e c1 c2 m1 m2
      cases g1 : M1.testBit i <;> cases g2 : C1.testBit i <;> cases g3 : C2.testBit i <;> simp_all
    · have l1 : C1 &&& M1 < 4294967296 := Nat.lt_of_le_of_lt Nat.and_le_left hr1
      have l2 : C2 &&& M1 < 4294967296 := Nat.lt_of_le_of_lt Nat.and_le_left hs1
      rw [high _ i l1 hi, high _ i l2 hi]
  exact e (by rw [w1, ec])

/-! ### what is left -/
/-- is rule i of l left out? (the program) -/
def idleP (l : List RuleD) (i : Nat) : Bool := (List.range l.length).any fun k => decide (k ≠ i) && coversP (plainR (l.getD k default)) (plainR (l.getD i default)) && (decide (k < i) || decide (plainR (l.getD k default) ≠ plainR (l.getD i default)))
def idleR (l : List RuleD) (i : Nat) : Bool := (List.range l.length).any fun k => decide (k ≠ i) && coversR (l.getD k default) (l.getD i default) && (decide (k < i) || !coversR (l.getD i default) (l.getD k default))
def lessN (l : List RuleD) : List RuleD := (List.range l.length).filterMap fun i => if idleR l i then none else some (l.getD i default)

theorem coversP_refl (a : RuleD) : coversP a a = true := by unfold coversP; rw [if_pos (.inl rfl)]
theorem idle_eq (l : List RuleD) (hl : ∀ r ∈ l, okRule r) (i : Nat) (hi : i < l.length) : idleP l i = idleR l i := by
  unfold idleP idleR
  rw [Bool.eq_iff_iff, List.any_eq_true, List.any_eq_true]
  have ok : ∀ k, k < l.length → okRule (l.getD k default) := fun k hk => by
    rw [show l.getD k default = l[k] by simp [List.getD, hk]]
    exact hl _ (List.getElem_mem hk)
  have same : ∀ k, k < l.length → (decide (k ≠ i) && coversP (plainR (l.getD k default)) (plainR (l.getD i default)) && (decide (k < i) || decide (plainR (l.getD k default) ≠ plainR (l.getD i default)))) =
      (decide (k ≠ i) && coversR (l.getD k default) (l.getD i default) && (decide (k < i) || !coversR (l.getD i default) (l.getD k default))) := by
    intro k hk
    rw [← covers_eq _ _ (ok k hk) (ok i hi), ← covers_eq _ _ (ok i hi) (ok k hk)]
    cases h1 : coversP (plainR (l.getD k default)) (plainR (l.getD i default))
    · simp
    · congr 2
      cases h2 : coversP (plainR (l.getD i default)) (plainR (l.getD k default))
      · have : plainR (l.getD k default) ≠ plainR (l.getD i default) := by
          intro e
          rw [e, coversP_refl] at h2
          cases h2
        rw [decide_eq_true this]; rfl
      · have := covers_anti _ _ (ok k hk) (ok i hi) h1 h2
        rw [decide_eq_false (fun h => h this)]; rfl
  constructor
  all_goals
    rintro ⟨k, hk, h⟩
    refine ⟨k, hk, ?_⟩
    first
      | (rw [← same k (List.mem_range.1 hk)]; exact h)
      | (rw [same k (List.mem_range.1 hk)]; exact h)
end Go.Proofs.YtflghgilcooiiaaDoor
