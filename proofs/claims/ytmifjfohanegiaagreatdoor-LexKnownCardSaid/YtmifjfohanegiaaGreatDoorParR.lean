/-
  The plain law of reading a number's text: the program's reader in steps, the reference's cut, and that they agree.
-/
import Derived.Test.YtmifjfohanegiaaGreatDoorParM
namespace Go.Proofs.YtmifjfohanegiaaGreatDoor
set_option linter.unusedVariables false

structure RS where
  pt : Nat
  neg : Bool
  ds : List UInt8
  back : Nat
  pow : Nat
  down : Bool
def isSg (c : UInt8) : Bool := c == 43 || c == 45
def isEe (c : UInt8) : Bool := c == 101 || c == 69
def powS (n : Nat) (l : List UInt8) : Nat := l.foldl (fun n c => min (10 * n + (c.toNat - 48)) 1000) n
def powL (l : List UInt8) : Nat := powS 0 l
def headD : List UInt8 → Bool
  | [] => false
  | d :: _ => isDg d
def rstep (x : RS) (c : UInt8) (t : List UInt8) : Option RS :=
  if isSg c = true then
    if x.pt = 0 then (if headD t = true then some { x with neg := c == 45, pt := 1 } else none)
    else if x.pt = 4 then some { x with down := c == 45, pt := 5 } else none
  else if c = 46 then (if x.pt = 1 then some { x with pt := 2 } else none)
  else if isEe c = true then (if x.pt = 1 ∨ x.pt = 3 then some { x with pt := 4 } else none)
  else if isDg c = true then
    if 4 ≤ x.pt then some { x with pt := 6, pow := min (10 * x.pow + (c.toNat - 48)) 1000 }
    else if x.pt = 2 ∨ x.pt = 3 then some { x with pt := 3, back := x.back + 1, ds := x.ds ++ [c] }
    else some { x with pt := 1, ds := x.ds ++ [c] }
  else none
def rrun : RS → List UInt8 → Option RS
  | x, [] => some x
  | x, c :: t => match rstep x c t with | none => none | some y => rrun y t
def sgP (down : Bool) (n : Nat) : Int := if down then -(n : Int) else n
def rfin (x : RS) : Option (Bool × List UInt8 × Int) :=
  if x.pt = 1 ∨ x.pt = 3 ∨ x.pt = 6 then some (x.neg, x.ds, sgP x.down x.pow - x.back) else none
def rout (x : RS) (l : List UInt8) : Option (Bool × List UInt8 × Int) := (rrun x l).bind rfin
def readL (s : List UInt8) : Option (Bool × List UInt8 × Int) := rout ⟨0, false, [], 0, 0, false⟩ s
theorem rout_nil (x : RS) : rout x [] = rfin x := rfl
theorem rout_cons (x : RS) (c : UInt8) (t : List UInt8) : rout x (c :: t) = (rstep x c t).bind (fun y => rout y t) := by
  unfold rout
  rw [show rrun x (c :: t) = (match rstep x c t with | none => none | some y => rrun y t) from rfl]
  cases rstep x c t <;> rfl

/-! ### the cut -/
def cutS (s : List UInt8) : Bool × List UInt8 :=
  match s with
  | [] => (false, [])
  | c :: t => if isSg c = true then (c == 45, t) else (false, c :: t)
def tw (l : List UInt8) : List UInt8 := l.takeWhile isDg
def dw (l : List UInt8) : List UInt8 := l.dropWhile isDg
def cutE (s : List UInt8) : Option (Bool × List UInt8 × List UInt8) :=
  match s with
  | [] => some (false, [], [])
  | c :: t => if isEe c = true then (if tw (cutS t).2 = [] then none else some ((cutS t).1, tw (cutS t).2, dw (cutS t).2)) else some (false, [], c :: t)
def cutP (s : List UInt8) : Option (List UInt8 × List UInt8) :=
  match s with
  | [] => some ([], [])
  | c :: t => if c = 46 then (if tw t = [] then none else some (tw t, dw t)) else some ([], c :: t)
def outE (neg : Bool) (ds : List UInt8) (back : Nat) (s : List UInt8) : Option (Bool × List UInt8 × Int) :=
  match cutE s with
  | none => none
  | some (down, p, r) => if r = [] then some (neg, ds, sgP down (powL p) - back) else none
def cutL (s : List UInt8) : Option (Bool × Bool × List UInt8 × List UInt8 × List UInt8) :=
  if tw (cutS s).2 = [] then none else
  match cutP (dw (cutS s).2) with
  | none => none
  | some (b, r) => match cutE r with
    | none => none
    | some (down, p, q) => if q = [] then some ((cutS s).1, down, tw (cutS s).2, b, p) else none

theorem dg_not {c : UInt8} (h : isDg c = true) : isSg c = false ∧ c ≠ 46 ∧ isEe c = false := by
  obtain ⟨h1, h2⟩ := (isDg_iff c).1 h
  refine ⟨?_, ?_, ?_⟩
  · unfold isSg
    rw [Bool.or_eq_false_iff, beq_eq_false_iff_ne, beq_eq_false_iff_ne]
    constructor <;> (intro e; subst e; revert h1; decide)
  · intro e; subst e; revert h1; decide
  · unfold isEe
    rw [Bool.or_eq_false_iff, beq_eq_false_iff_ne, beq_eq_false_iff_ne]
    constructor <;> (intro e; subst e; revert h2; decide)
theorem sg_not {c : UInt8} (h : isSg c = true) : isDg c = false ∧ c ≠ 46 ∧ isEe c = false := by
  unfold isSg at h
  rw [Bool.or_eq_true, beq_iff_eq, beq_iff_eq] at h
  rcases h with rfl | rfl <;> decide
theorem ee_not {c : UInt8} (h : isEe c = true) : isDg c = false ∧ c ≠ 46 ∧ isSg c = false := by
  unfold isEe at h
  rw [Bool.or_eq_true, beq_iff_eq, beq_iff_eq] at h
  rcases h with rfl | rfl <;> decide
theorem tw_cons {c : UInt8} {t : List UInt8} (h : isDg c = true) : tw (c :: t) = c :: tw t := by unfold tw; rw [List.takeWhile_cons, if_pos h]
theorem tw_stop {c : UInt8} {t : List UInt8} (h : isDg c = false) : tw (c :: t) = [] := by unfold tw; rw [List.takeWhile_cons, h]; rfl
theorem dw_cons {c : UInt8} {t : List UInt8} (h : isDg c = true) : dw (c :: t) = dw t := by unfold dw; rw [List.dropWhile_cons, if_pos h]
theorem dw_stop {c : UInt8} {t : List UInt8} (h : isDg c = false) : dw (c :: t) = c :: t := by unfold dw; rw [List.dropWhile_cons, h]; rfl

theorem step_dg {x : RS} {c : UInt8} {t : List UInt8} (h : isDg c = true) : rstep x c t = (if 4 ≤ x.pt then some { x with pt := 6, pow := min (10 * x.pow + (c.toNat - 48)) 1000 }
    else if x.pt = 2 ∨ x.pt = 3 then some { x with pt := 3, back := x.back + 1, ds := x.ds ++ [c] }
    else some { x with pt := 1, ds := x.ds ++ [c] }) := by
  obtain ⟨h1, h2, h3⟩ := dg_not h
  unfold rstep
  rw [h1, if_neg (by decide), if_neg h2, h3, if_neg (by decide), if_pos h]
theorem step_none {x : RS} {c : UInt8} {t : List UInt8} (h : isDg c = false) (hs : isSg c = true → x.pt ≠ 0 ∧ x.pt ≠ 4) (hp : c = 46 → x.pt ≠ 1) (he : isEe c = true → x.pt ≠ 1 ∧ x.pt ≠ 3) : rstep x c t = none := by
  unfold rstep
  split
  · rename_i h1; rw [if_neg (hs h1).1, if_neg (hs h1).2]
  · split
    · rename_i h2; rw [if_neg (hp h2)]
    · split
      · rename_i h3; rw [if_neg (fun h => h.elim (he h3).1 (he h3).2)]
      · rw [h, if_neg (by decide)]

theorem powS_cons (n : Nat) (c : UInt8) (l : List UInt8) : powS n (c :: l) = powS (min (10 * n + (c.toNat - 48)) 1000) l := by unfold powS; rw [List.foldl_cons]
theorem r6 : ∀ (l : List UInt8) (x : RS), x.pt = 6 → rout x l = if dw l = [] then some (x.neg, x.ds, sgP x.down (powS x.pow (tw l)) - x.back) else none := by
  intro l
  induction l with
  | nil => intro x h; rw [rout_nil]; unfold rfin; rw [h]; rfl
  | cons c t ih =>
    intro x h
    rw [rout_cons]
    cases hc : isDg c
    · rw [step_none hc (by omega) (by omega) (by omega), dw_stop hc, if_neg (by simp)]; rfl
    · rw [step_dg hc, if_pos (by omega), dw_cons hc, tw_cons hc, powS_cons, Option.bind_some]
      rw [ih { x with pt := 6, pow := min (10 * x.pow + (c.toNat - 48)) 1000 } rfl]
theorem r5 (l : List UInt8) (x : RS) (h : x.pt = 5 ∨ (x.pt = 4 ∧ (cutS l).2 = l)) : rout x l = if tw l = [] then none else if dw l = [] then some (x.neg, x.ds, sgP x.down (powS x.pow (tw l)) - x.back) else none := by
  cases l with
  | nil => rw [rout_nil]; unfold rfin; rw [if_neg (by omega)]; rfl
  | cons c t =>
    rw [rout_cons]
    cases hc : isDg c
    · rw [step_none hc ?_ (by omega) (by omega), tw_stop hc, if_pos rfl]; rfl
      intro hs
      rcases h with h | ⟨h, h2⟩
      · omega
      · unfold cutS at h2
        simp only [hs, if_true] at h2
        exact absurd (congrArg List.length h2) (by simp)
    · rw [step_dg hc, if_pos (by omega), dw_cons hc, tw_cons hc, powS_cons, if_neg (by simp), Option.bind_some]
      rw [r6 t { x with pt := 6, pow := min (10 * x.pow + (c.toNat - 48)) 1000 } rfl]
theorem cutS_not {c : UInt8} {t : List UInt8} (h : isSg c = false) : cutS (c :: t) = (false, c :: t) := by unfold cutS; simp [h]
theorem cutS_sg {c : UInt8} {t : List UInt8} (h : isSg c = true) : cutS (c :: t) = (c == 45, t) := by unfold cutS; simp [h]
theorem r4 (l : List UInt8) (x : RS) (h : x.pt = 4) (hd : x.down = false) (hp : x.pow = 0) : rout x l = if tw (cutS l).2 = [] then none else if dw (cutS l).2 = [] then some (x.neg, x.ds, sgP (cutS l).1 (powL (tw (cutS l).2)) - x.back) else none := by
  cases l with
  | nil => rw [r5 _ _ (.inr ⟨h, rfl⟩)]; rfl
  | cons c t =>
    cases hs : isSg c
    · rw [r5 _ _ (.inr ⟨h, by rw [cutS_not hs]⟩), cutS_not hs, hd, hp]; rfl
    · rw [rout_cons, cutS_sg hs]
      unfold rstep
      rw [if_pos hs, if_neg (by omega), if_pos h]
      show rout _ t = _
      rw [r5 _ _ (.inl rfl), hp]; rfl
theorem outE_stop {neg : Bool} {ds : List UInt8} {back : Nat} {c : UInt8} {t : List UInt8} (h : isEe c = false) : outE neg ds back (c :: t) = none := by
  unfold outE cutE; simp [h]
theorem outE_e {neg : Bool} {ds : List UInt8} {back : Nat} {c : UInt8} {t : List UInt8} (h : isEe c = true) : outE neg ds back (c :: t) = if tw (cutS t).2 = [] then none else if dw (cutS t).2 = [] then some (neg, ds, sgP (cutS t).1 (powL (tw (cutS t).2)) - back) else none := by
  unfold outE cutE
  simp only [h, if_true]
  by_cases h1 : tw (cutS t).2 = []
  · simp [h1]
  · simp [h1]
theorem outE_nil {neg : Bool} {ds : List UInt8} {back : Nat} : outE neg ds back [] = some (neg, ds, 0 - (back : Int)) := rfl
theorem r3 : ∀ (l : List UInt8) (x : RS), x.pt = 3 → x.down = false → x.pow = 0 → rout x l = outE x.neg (x.ds ++ tw l) (x.back + (tw l).length) (dw l) := by
  intro l
  induction l with
  | nil =>
    intro x h hd hp
    rw [rout_nil]; unfold rfin; rw [if_pos (by omega), hd, hp]
    show _ = outE x.neg (x.ds ++ []) (x.back + 0) []
    rw [List.append_nil]; rfl
  | cons c t ih =>
    intro x h hd hp
    rw [rout_cons]
    cases hc : isDg c
    · rw [tw_stop hc, dw_stop hc, List.append_nil]
      cases he : isEe c
      · rw [step_none hc (by omega) (by omega) (by rw [he]; intro h; cases h), outE_stop he]; rfl
      · obtain ⟨_, q2, q3⟩ := ee_not he
        unfold rstep
        rw [q3, if_neg (by decide), if_neg q2, if_pos he, if_pos (.inr h), outE_e he]
        show rout _ t = _
        rw [r4 t { x with pt := 4 } rfl hd hp]; rfl
    · rw [step_dg hc, if_neg (by omega), if_pos (by omega), dw_cons hc, tw_cons hc]
      show rout _ t = _
      rw [ih { x with pt := 3, back := x.back + 1, ds := x.ds ++ [c] } rfl hd hp]
      show outE _ (x.ds ++ [c] ++ tw t) (x.back + 1 + (tw t).length) _ = _
      rw [List.append_assoc, List.length_cons, Nat.add_assoc, Nat.add_comm 1]; rfl
theorem r2 (l : List UInt8) (x : RS) (h : x.pt = 2) (hd : x.down = false) (hp : x.pow = 0) (hb : x.back = 0) : rout x l = if tw l = [] then none else outE x.neg (x.ds ++ tw l) (tw l).length (dw l) := by
  cases l with
  | nil => rw [rout_nil]; unfold rfin; rw [if_neg (by omega)]; rfl
  | cons c t =>
    rw [rout_cons]
    cases hc : isDg c
    · rw [step_none hc (by omega) (by omega) (by omega), tw_stop hc, if_pos rfl]; rfl
    · rw [step_dg hc, if_neg (by omega), if_pos (by omega), dw_cons hc, tw_cons hc, if_neg (by simp)]
      show rout _ t = _
      rw [r3 t { x with pt := 3, back := x.back + 1, ds := x.ds ++ [c] } rfl hd hp]
      show outE _ (x.ds ++ [c] ++ tw t) (x.back + 1 + (tw t).length) _ = _
      rw [List.append_assoc, List.length_cons, hb, Nat.zero_add, Nat.add_comm 1]; rfl
def outP (neg : Bool) (ds : List UInt8) (s : List UInt8) : Option (Bool × List UInt8 × Int) :=
  match cutP s with
  | none => none
  | some (b, r) => outE neg (ds ++ b) b.length r
theorem r1 : ∀ (l : List UInt8) (x : RS), x.pt = 1 → x.down = false → x.pow = 0 → x.back = 0 → rout x l = outP x.neg (x.ds ++ tw l) (dw l) := by
  intro l
  induction l with
  | nil =>
    intro x h hd hp hb
    rw [rout_nil]; unfold rfin; rw [if_pos (by omega), hd, hp, hb]
    show _ = outE x.neg (x.ds ++ [] ++ []) 0 []
    rw [List.append_nil, List.append_nil]; rfl
  | cons c t ih =>
    intro x h hd hp hb
    rw [rout_cons]
    cases hc : isDg c
    · rw [tw_stop hc, dw_stop hc, List.append_nil]
      by_cases hpt : c = 46
      · subst hpt
        have e1 : outP x.neg x.ds (46 :: t) = if tw t = [] then none else outE x.neg (x.ds ++ tw t) (tw t).length (dw t) := by
          unfold outP cutP
          simp only [if_true]
          by_cases h1 : tw t = []
          · simp [h1]
          · simp [h1]
        rw [e1]
        unfold rstep
        rw [if_neg (by decide), if_pos rfl, if_pos h]
        show rout _ t = _
        rw [r2 t { x with pt := 2 } rfl hd hp hb]
      · have e1 : outP x.neg x.ds (c :: t) = outE x.neg x.ds 0 (c :: t) := by
          unfold outP cutP
          simp [hpt]
        rw [e1]
        cases he : isEe c
        · rw [step_none hc (by omega) (fun h => absurd h hpt) (by rw [he]; intro h; cases h), outE_stop he]; rfl
        · obtain ⟨_, q2, q3⟩ := ee_not he
          unfold rstep
          rw [q3, if_neg (by decide), if_neg q2, if_pos he, if_pos (.inl h), outE_e he]
          show rout _ t = _
          rw [r4 t { x with pt := 4 } rfl hd hp]
          show (if tw (cutS t).2 = [] then none else if dw (cutS t).2 = [] then some (x.neg, x.ds, sgP (cutS t).1 (powL (tw (cutS t).2)) - (x.back : Int)) else none) = _
          rw [hb]
    · rw [step_dg hc, if_neg (by omega), if_neg (by omega), dw_cons hc, tw_cons hc]
      show rout _ t = _
      rw [ih { x with pt := 1, ds := x.ds ++ [c] } rfl hd hp hb]
      show outP _ (x.ds ++ [c] ++ tw t) _ = _
      rw [List.append_assoc]; rfl
theorem headD_tw (l : List UInt8) : headD l = true ↔ tw l ≠ [] := by
  cases l with
  | nil => simp [headD, tw]
  | cons c t =>
    cases hc : isDg c
    · rw [tw_stop hc]; simp [headD, hc]
    · rw [tw_cons hc]; simp [headD, hc]
theorem r0 (l : List UInt8) : readL l = if tw (cutS l).2 = [] then none else outP (cutS l).1 (tw (cutS l).2) (dw (cutS l).2) := by
  unfold readL
  cases l with
  | nil => rfl
  | cons c t =>
    cases hs : isSg c
    · rw [cutS_not hs]
      cases hc : isDg c
      · rw [rout_cons, step_none hc (by rw [hs]; intro h; cases h) (by intro _; decide) (by intro _; exact ⟨by decide, by decide⟩), if_pos (tw_stop hc)]; rfl
      · rw [rout_cons, step_dg hc, if_neg (by decide), if_neg (by decide), dw_cons hc, tw_cons hc, if_neg (by simp)]
        show rout _ t = _
        rw [r1 _ _ rfl rfl rfl rfl]; rfl
    · rw [cutS_sg hs, rout_cons]
      unfold rstep
      rw [if_pos hs, if_pos rfl]
      by_cases h1 : headD t = true
      · rw [if_pos h1, if_neg ((headD_tw t).1 h1)]
        show rout _ t = _
        rw [r1 _ _ rfl rfl rfl rfl]; rfl
      · rw [if_neg h1, if_pos (Decidable.byContradiction fun h => h1 ((headD_tw t).2 h))]; rfl
theorem read_cut (s : List UInt8) : readL s = (cutL s).map (fun p => (p.1, p.2.2.1 ++ p.2.2.2.1, sgP p.2.1 (powL p.2.2.2.2) - (p.2.2.2.1.length : Int))) := by
  rw [r0]
  unfold cutL
  by_cases h : tw (cutS s).2 = []
  · rw [if_pos h, if_pos h]; rfl
  · rw [if_neg h, if_neg h]
    unfold outP
    cases cutP (dw (cutS s).2) with
    | none => rfl
    | some br =>
      obtain ⟨b, r⟩ := br
      simp only
      unfold outE
      cases cutE r with
      | none => rfl
      | some d =>
        obtain ⟨down, p, q⟩ := d
        simp only
        by_cases hq : q = []
        · rw [if_pos hq, if_pos hq]; rfl
        · rw [if_neg hq, if_neg hq]; rfl
end Go.Proofs.YtmifjfohanegiaaGreatDoor
