/-
  Plain: a scan by units beside a scan by bytes: the units' beginnings.
-/
import Derived.Test.YtmifjfohanegiaaGreatDoorLexL
import Derived.Test.YtmifjfohanegiaaGreatDoorLexG
namespace Go.Proofs.YtmifjfohanegiaaGreatDoor
set_option linter.unusedVariables false
open Go.RowKit Go.Shelf

/-- n bytes further a unit begins, or the text ends; its place -/
inductive Bnd : List UInt8 → Int × Int → Nat → Int × Int → Prop where
  | zero (s : List UInt8) (p : Int × Int) : Bnd s p 0 p
  | step (s : List UInt8) (p : Int × Int) (n : Nat) (q : Int × Int) (hne : s ≠ []) (h : Bnd (s.drop (decL s).2) (nextP p (decL s).1) n q) : Bnd s p ((decL s).2 + n) q
theorem Bnd.trans {s : List UInt8} {p q r : Int × Int} {n m : Nat} (h : Bnd s p n q) (h2 : Bnd (s.drop n) q m r) : Bnd s p (n + m) r := by
  induction h with
  | zero s p => rw [Nat.zero_add]; exact h2
  | step s p n q hne h ih =>
    rw [Nat.add_assoc]
    refine .step s p _ _ hne (ih ?_)
    rwa [List.drop_drop]
theorem Bnd.le {s : List UInt8} {p q : Int × Int} {n : Nat} (h : Bnd s p n q) : n ≤ s.length := by
  induction h with
  | zero s p => exact Nat.zero_le _
  | step s p n q hne h ih => have := (dec_w s).2.2 hne; rw [List.length_drop] at ih; omega
/-- the places of the bytes, and of the end -/
def placesF : Nat → List UInt8 → Int × Int → List (Int × Int)
  | 0, _, p => [p]
  | f + 1, s, p => if s = [] then [p] else List.replicate (decL s).2 p ++ placesF f (s.drop (decL s).2) (nextP p (decL s).1)
theorem places_nil (f : Nat) (p : Int × Int) : placesF f [] p = [p] := by cases f <;> simp [placesF]
theorem places_step {f : Nat} {s : List UInt8} {p : Int × Int} (hne : s ≠ []) : placesF (f + 1) s p = List.replicate (decL s).2 p ++ placesF f (s.drop (decL s).2) (nextP p (decL s).1) := by
  rw [placesF, if_neg hne]
theorem places_len : ∀ (f : Nat) (s : List UInt8) (p : Int × Int), s.length ≤ f → (placesF f s p).length = s.length + 1
  | 0, s, p, h => by
    have : s = [] := List.length_eq_zero_iff.1 (by omega)
    subst this; rfl
  | f + 1, s, p, h => by
    by_cases h0 : s = []
    · subst h0; rw [places_nil]; rfl
    · rw [places_step h0, List.length_append, List.length_replicate, places_len f _ _ (drop_short h), List.length_drop]
      have := (dec_w s).2.2 h0
      omega
theorem Bnd.place {s : List UInt8} {p q : Int × Int} {n : Nat} (h : Bnd s p n q) : ∀ f, s.length ≤ f → (placesF f s p)[n]? = some q := by
  induction h with
  | zero s p =>
    intro f hf
    by_cases h0 : s = []
    · subst h0; rw [places_nil]; rfl
    · cases f with
      | zero => rfl
      | succ f =>
        rw [places_step h0]
        have := (dec_w s).1
        rw [List.getElem?_append_left (by rw [List.length_replicate]; omega), List.getElem?_replicate, if_pos (by omega)]
  | step s p n q hne h ih =>
    intro f hf
    cases f with
    | zero => exact absurd (List.length_eq_zero_iff.1 (by omega)) hne
    | succ f =>
      rw [places_step hne, List.getElem?_append_right (by rw [List.length_replicate]; omega), List.length_replicate, Nat.add_sub_cancel_left]
      exact ih f (drop_short hf)
/-- what is skipped -/
theorem Bnd.jump {s : List UInt8} {p q : Int × Int} {n : Nat} (h : Bnd s p n q) : ∀ (f g : Nat) (acc : List TokD), s.length ≤ f → (s.drop n).length ≤ g → scanF f s n p acc = scanF g (s.drop n) 0 q acc := by
  induction h with
  | zero s p => intro f g acc hf hg; exact scan_fuel f g _ _ _ _ hf hg
  | step s p n q hne h ih =>
    intro f g acc hf hg
    have hw := (dec_w s).1
    cases f with
    | zero => exact absurd (List.length_eq_zero_iff.1 (by omega)) hne
    | succ f =>
      rw [scan_skip hne (by rintro ⟨h1, _⟩; omega), Nat.add_sub_cancel_left, ih f g acc (drop_short hf) (by rwa [List.drop_drop]), List.drop_drop]
/-- behind a byte below 128 a unit begins -/
theorem bnd_low : ∀ (f : Nat) (s : List UInt8) (p : Int × Int) (n : Nat) (c : UInt8), s.length ≤ f → 1 ≤ n → s[n - 1]? = some c → c.toNat < 128 → ∃ q, Bnd s p n q
  | 0, s, p, n, c, hf, hn, hc, hlo => by
    have : s = [] := List.length_eq_zero_iff.1 (by omega)
    subst this; simp at hc
  | f + 1, s, p, n, c, hf, hn, hc, hlo => by
    have hne : s ≠ [] := by intro h; subst h; simp at hc
    have hlt : n - 1 < s.length := (List.getElem?_eq_some_iff.1 hc).1
    have hw := dec_w s
    by_cases hr : (decL s).1 < 128
    · obtain ⟨a, t, rfl⟩ : ∃ a t, s = a :: t := by cases s with
        | nil => exact absurd rfl hne
        | cons a t => exact ⟨a, t, rfl⟩
      obtain ⟨he, h1⟩ := dec_low a t hr
      have e2 : (decL (a :: t)).2 = 1 := by rw [he]
      by_cases h : n = 1
      · subst h
        have := Bnd.step (a :: t) p 0 _ hne (.zero _ _)
        rw [e2] at this
        exact ⟨_, this⟩
      · obtain ⟨q, hq⟩ := bnd_low f ((a :: t).drop (decL (a :: t)).2) (nextP p (decL (a :: t)).1) (n - 1) c (drop_short hf) (by omega) (by
          rw [e2, List.getElem?_drop, show 1 + (n - 1 - 1) = n - 1 by omega]; exact hc) hlo
        have := Bnd.step (a :: t) p _ _ hne hq
        rw [e2, show 1 + (n - 1) = n by omega] at this
        exact ⟨q, this⟩
    · have hc2 := dec_conts s (by omega) hne
      have hge : (decL s).2 < n := by
        rcases Nat.lt_or_ge (decL s).2 n with h | h
        · exact h
        · exfalso
          have hm : c ∈ s.take (decL s).2 := by
            apply List.mem_of_getElem? (i := n - 1)
            rw [List.getElem?_take, if_pos (by omega)]; exact hc
          have := hc2 c hm
          omega
      obtain ⟨q, hq⟩ := bnd_low f (s.drop (decL s).2) (nextP p (decL s).1) (n - (decL s).2) c (drop_short hf) (by omega) (by
        rw [List.getElem?_drop, show (decL s).2 + (n - (decL s).2 - 1) = n - 1 by omega]; exact hc) hlo
      have := Bnd.step s p _ _ hne hq
      rw [show (decL s).2 + (n - (decL s).2) = n by omega] at this
      exact ⟨q, this⟩

/-- tests that only bytes below 128 pass -/
theorem dec_test (q : Nat → Bool) (hq : ∀ r, q r = true → r < 128) (c : UInt8) (t : List UInt8) : q (decL (c :: t)).1 = q c.toNat := by
  by_cases h : (decL (c :: t)).1 < 128
  · rw [(dec_low c t h).1]
  · have h2 : ¬ c.toNat < 128 := fun h3 => h (by rw [dec_ascii c t h3]; exact h3)
    have e1 : q (decL (c :: t)).1 = false := by rw [Bool.eq_false_iff]; exact fun h3 => h (hq _ h3)
    have e2 : q c.toNat = false := by rw [Bool.eq_false_iff]; exact fun h3 => h2 (hq _ h3)
    rw [e1, e2]
theorem blankU_low {r : Nat} (h : blankU r = true) : r < 128 := by
  unfold blankU at h
  simp only [Bool.or_eq_true, beq_iff_eq] at h
  omega
theorem sgU_lowT {r : Nat} (h : sgU r = true) : r < 128 := by
  unfold sgU at h
  simp only [Bool.or_eq_true, beq_iff_eq] at h
  omega
/-- the token, by bytes -/
theorem tok_bytes (c : UInt8) (t : List UInt8) : tokR (c :: t) =
    if ltU c.toNat = true then .good 1 ((c :: t).take (nameN (c :: t))) (nameN (c :: t))
    else if (dgU c.toNat || sgC c.toNat (c :: t)) = true then (if numN (c :: t) = 0 then .bad 8 else .good 2 ((c :: t).take (numN (c :: t))) (numN (c :: t)))
    else if c = 34 then textR (c :: t)
    else if sgU c.toNat = true then .good 4 [c] 1
    else if ordB (c :: t) = true then .good 4 ((c :: t).take 3) 3 else .bad 7 := by
  have e1 := dec_test ltU (fun r h => ltU_low h) c t
  have e2 := dec_test dgU (fun r h => dgU_low h) c t
  have e3 := dec_test sgU (fun r h => sgU_lowT h) c t
  have e4 : sgC (decL (c :: t)).1 (c :: t) = sgC c.toNat (c :: t) := by
    have := dec_test (fun r => r == 43 || r == 45) (fun r h => by simp only [Bool.or_eq_true, beq_iff_eq] at h; omega) c t
    unfold sgC
    have h2 : ((decL (c :: t)).1 == 43 || (decL (c :: t)).1 == 45) = (c.toNat == 43 || c.toNat == 45) := this
    rw [h2]
  have e5 : ((decL (c :: t)).1 = 34) = (c = 34) := by
    have this : ((decL (c :: t)).1 == 34) = (c.toNat == 34) := dec_test (fun r => r == 34) (fun r h => by simp only [beq_iff_eq] at h; omega) c t
    apply propext
    constructor
    · intro h
      rw [h] at this
      exact UInt8.toNat.inj (by have h2 := this.symm; rw [beq_self_eq_true, beq_iff_eq] at h2; exact h2)
    · intro h
      subst h
      have h2 : (UInt8.toNat 34 == 34) = true := rfl
      rw [h2, beq_iff_eq] at this
      exact this
  unfold tokR
  simp only [e1, e2, e3, e4, e5]
  rfl
/-- the end of what is quoted is a quote -/
theorem endQ_at : ∀ (l : List UInt8) (b : Bool) (i k : Nat), endQ b i l = some k → i ≤ k ∧ l[k - i]? = some 34
  | [], b, i, k, h => by rw [endQ_nil] at h; cases h
  | c :: t, true, i, k, h => by
    obtain ⟨h1, h2⟩ := endQ_at t false (i + 1) k h
    refine ⟨by omega, ?_⟩
    rw [show k - i = (k - (i + 1)) + 1 by omega]
    exact h2
  | c :: t, false, i, k, h => by
    have h' : (if c = 92 then endQ true (i + 1) t else if c = 34 then some i else endQ false (i + 1) t) = some k := h
    have aux : ∀ b, endQ b (i + 1) t = some k → i ≤ k ∧ (c :: t)[k - i]? = some 34 := fun b h => by
      obtain ⟨h1, h2⟩ := endQ_at t b (i + 1) k h
      refine ⟨by omega, ?_⟩
      rw [show k - i = (k - (i + 1)) + 1 by omega]
      exact h2
    split at h'
    · exact aux _ h'
    · split at h'
      · rename_i h3
        cases h'
        rw [Nat.sub_self]
        exact ⟨Nat.le_refl _, by rw [h3]; rfl⟩
      · exact aux _ h'
theorem endQ_shift : ∀ (l : List UInt8) (b : Bool) (d i : Nat), endQ b (d + i) l = (endQ b i l).map (d + ·)
  | [], b, d, i => by rw [endQ_nil, endQ_nil]; rfl
  | c :: t, true, d, i => endQ_shift t false d (i + 1)
  | c :: t, false, d, i => by
    show (if c = 92 then endQ true (d + i + 1) t else if c = 34 then some (d + i) else endQ false (d + i + 1) t) = (if c = 92 then endQ true (i + 1) t else if c = 34 then some i else endQ false (i + 1) t).map (d + ·)
    split
    · exact endQ_shift t true d (i + 1)
    · split
      · rfl
      · exact endQ_shift t false d (i + 1)

/-- a number's last byte -/
def LastA (s : List UInt8) (n : Nat) : Prop := 1 ≤ n ∧ ∃ c, s[n - 1]? = some c ∧ c.toNat < 128
theorem last_tw {s : List UInt8} {n : Nat} (h : tw (s.drop n) ≠ []) : LastA s (n + (tw (s.drop n)).length) := by
  have hpos : 0 < (tw (s.drop n)).length := List.length_pos_iff.2 h
  refine ⟨by omega, ?_⟩
  have hm : (tw (s.drop n))[(tw (s.drop n)).length - 1] ∈ tw (s.drop n) := List.getElem_mem _
  have hd : isDg (tw (s.drop n))[(tw (s.drop n)).length - 1] = true := by
    unfold tw at hm ⊢
    exact List.all_eq_true.1 (List.all_takeWhile ..) _ hm
  refine ⟨(tw (s.drop n))[(tw (s.drop n)).length - 1], ?_, dgU_low (show dgU _ = true from hd)⟩
  have hpre : tw (s.drop n) <+: s.drop n := by unfold tw; exact List.takeWhile_prefix _
  rw [show n + (tw (s.drop n)).length - 1 = n + ((tw (s.drop n)).length - 1) by omega, ← List.getElem?_drop]
  obtain ⟨r, hr⟩ := hpre
  have h3 : (s.drop n)[(tw (s.drop n)).length - 1]? = (tw (s.drop n) ++ r)[(tw (s.drop n)).length - 1]? := by rw [hr]
  rw [h3, List.getElem?_append_left (by omega), List.getElem?_eq_getElem (by omega)]
theorem num3_last {s : List UInt8} {n : Nat} (h : LastA s n) : num3T s n = 0 ∨ LastA s (num3T s n) := by
  unfold num3T
  split
  · split
    · exact .inl rfl
    · exact .inr h
  · exact .inr h
theorem num2_last {s : List UInt8} {n : Nat} (h : LastA s n) : num2T s n = 0 ∨ LastA s (num2T s n) := by
  unfold num2T
  split
  · split
    · split
      · exact .inl rfl
      · rename_i h2
        exact num3_last (last_tw h2)
    · exact num3_last h
  · exact num3_last h
theorem num1_last {s : List UInt8} {n : Nat} (h : LastA s n) : num1T s n = 0 ∨ LastA s (num1T s n) := by
  unfold num1T
  split
  · split
    · split
      · exact .inl rfl
      · rename_i h2
        have := last_tw h2
        rw [Nat.add_assoc] at this
        exact num2_last this
    · exact num2_last h
  · exact num2_last h
/-- a number begins with a digit, or a sign and a digit: what stands ahead of its point -/
theorem num_first (c : UInt8) (t : List UInt8) (h : (dgU c.toNat || sgC c.toNat (c :: t)) = true) : tw ((c :: t).drop (sgnN (c :: t))) ≠ [] := by
  show tw ((c :: t).drop (if isSg c = true then 1 else 0)) ≠ []
  have htw : ∀ (d : UInt8) (u : List UInt8), dgU d.toNat = true → tw (d :: u) ≠ [] := fun d u hd => by
    rw [tw_cons (show isDg d = true from hd)]; exact List.cons_ne_nil _ _
  cases hs : isSg c
  · rw [if_neg (by simp)]
    rw [Bool.or_eq_true] at h
    rcases h with h | h
    · exact htw c t h
    · exfalso
      unfold sgC at h
      rw [Bool.and_eq_true, Bool.or_eq_true, beq_iff_eq, beq_iff_eq] at h
      unfold isSg at hs
      rw [Bool.or_eq_false_iff, beq_eq_false_iff_ne, beq_eq_false_iff_ne] at hs
      rcases h.1 with h1 | h1
      · exact hs.1 (UInt8.toNat.inj h1)
      · exact hs.2 (UInt8.toNat.inj h1)
  · rw [if_pos rfl]
    have hnd : dgU c.toNat = false := by
      unfold isSg at hs
      rw [Bool.or_eq_true, beq_iff_eq, beq_iff_eq] at hs
      rcases hs with rfl | rfl <;> rfl
    rw [hnd, Bool.false_or] at h
    unfold sgC at h
    rw [Bool.and_eq_true] at h
    rcases t with _ | ⟨d, u⟩
    · exact absurd h.2 (by simp)
    · exact htw d u h.2
theorem num_last (c : UInt8) (t : List UInt8) (h : (dgU c.toNat || sgC c.toNat (c :: t)) = true) : numN (c :: t) = 0 ∨ LastA (c :: t) (numN (c :: t)) :=
  num1_last (last_tw (num_first c t h))
/-- where a token ends -/
theorem tok_last (c : UInt8) (t : List UInt8) {k : Int} {x : List UInt8} {n : Nat} (h : tokR (c :: t) = .good k x n) : LastA (c :: t) n := by
  rw [tok_bytes] at h
  split at h
  · rename_i h1
    cases h
    have h2 : ldC c = true := by unfold ldC; rw [h1]; rfl
    have hpos : 0 < nameN (c :: t) := by unfold nameN; rw [List.takeWhile_cons, h2]; simp
    refine ⟨hpos, ?_⟩
    have hm : ((c :: t).takeWhile ldC)[nameN (c :: t) - 1]'(by unfold nameN at hpos ⊢; omega) ∈ (c :: t).takeWhile ldC := List.getElem_mem _
    have hd := List.all_eq_true.1 (List.all_takeWhile (p := ldC) (l := c :: t)) _ hm
    refine ⟨((c :: t).takeWhile ldC)[nameN (c :: t) - 1]'(by unfold nameN at hpos ⊢; omega), ?_, ?_⟩
    · obtain ⟨r, hr⟩ := List.takeWhile_prefix ldC (l := c :: t)
      have : (c :: t)[nameN (c :: t) - 1]? = ((c :: t).takeWhile ldC ++ r)[nameN (c :: t) - 1]? := by rw [hr]
      rw [this, List.getElem?_append_left (by unfold nameN at hpos ⊢; omega), List.getElem?_eq_getElem (by unfold nameN at hpos ⊢; omega)]
    · unfold ldC at hd
      rw [Bool.or_eq_true] at hd
      rcases hd with hd | hd
      · exact ltU_low hd
      · exact dgU_low hd
  · split at h
    · rename_i h2
      split at h
      · cases h
      · rename_i h3
        cases h
        rcases num_last c t h2 with h4 | h4
        · exact absurd h4 h3
        · exact h4
    · split at h
      · unfold textR at h
        split at h
        · cases h
        · rename_i i hi
          split at h
          · split at h <;> cases h
          · cases h
            obtain ⟨a, b⟩ := endQ_at _ _ _ _ hi
            refine ⟨by omega, 34, ?_, by decide⟩
            rw [List.getElem?_drop] at b
            rw [show i + 1 - 1 = 1 + (i - 1) by omega]
            exact b
      · split at h
        · rename_i h4
          cases h
          exact ⟨Nat.le_refl _, c, rfl, sgU_lowT h4⟩
        · split at h
          · rename_i h5
            cases h
            refine ⟨by decide, ?_⟩
            unfold ordB at h5
            have hl := ordB_len (s := c :: t) h5
            simp only [Bool.or_eq_true, beq_iff_eq] at h5
            have aux : ∀ a b d : UInt8, (c :: t).take 3 = [a, b, d] → (c :: t)[2]? = some d := fun a b d e => by
              have := congrArg (fun l => l[2]?) e
              simp only [List.getElem?_take] at this
              rw [if_pos (by decide)] at this
              exact this
            rcases h5 with ((h5 | h5) | h5) | h5
            all_goals exact ⟨_, aux _ _ _ h5, by decide⟩
          · cases h

/-- the scan by bytes between two rounds -/
structure RefI (s : List UInt8) (V : ScanR) (i : Nat) (acc : List TokD) (q : Int × Int) : Prop where
  hk : i ≤ s.length
  hb : Bnd s (1, 1) i q
  hv : V = scanF (s.length - i) (s.drop i) 0 q acc
theorem RefI.place {s : List UInt8} {V : ScanR} {i : Nat} {acc : List TokD} {q : Int × Int} (h : RefI s V i acc q) : (placesF s.length s (1, 1))[i]? = some q := h.hb.place _ (Nat.le_refl _)
theorem RefI.blank {s : List UInt8} {V : ScanR} {i : Nat} {acc : List TokD} {q : Int × Int} (h : RefI s V i acc q) (hlt : i < s.length) (hb : blankU s[i].toNat = true) : ∃ q', RefI s V (i + 1) acc q' := by
  have hd := List.drop_eq_getElem_cons hlt
  obtain ⟨_, h2, h3⟩ := h
  have e := dec_ascii s[i] (s.drop (i + 1)) (blankU_low hb)
  refine ⟨nextP q (decL (s.drop i)).1, hlt, ?_, ?_⟩
  · have := Bnd.step (s.drop i) q 0 _ (by rw [hd]; exact List.cons_ne_nil _ _) (.zero _ _)
    rw [hd, e, ← hd] at this
    have h4 := h2.trans this
    rw [hd, e]
    exact h4
  · rw [h3, show s.length - i = (s.length - (i + 1)) + 1 by omega, scan_skip (by rw [hd]; exact List.cons_ne_nil _ _) (by rw [hd, e]; rintro ⟨_, h5⟩; rw [hb] at h5; cases h5), hd, e]
    rfl
theorem RefI.bad {s : List UInt8} {V : ScanR} {i : Nat} {acc : List TokD} {q : Int × Int} (h : RefI s V i acc q) (hlt : i < s.length) (hb : blankU s[i].toNat = false) {e : Nat} (ht : tokR (s.drop i) = .bad e) : V = .bad (faultV (e : Nat) q.1 q.2) := by
  have hd := List.drop_eq_getElem_cons hlt
  rw [h.hv, show s.length - i = (s.length - (i + 1)) + 1 by omega, scan_tok (by rw [hd]; exact List.cons_ne_nil _ _) rfl (by rw [hd, dec_test blankU (fun r h => blankU_low h)]; exact hb), ht]
theorem RefI.good {s : List UInt8} {V : ScanR} {i : Nat} {acc : List TokD} {q : Int × Int} (h : RefI s V i acc q) (hlt : i < s.length) (hb : blankU s[i].toNat = false) {k : Int} {t : List UInt8} {n : Nat} (ht : tokR (s.drop i) = .good k t n) : 1 ≤ n ∧ ∃ q', RefI s V (i + n) (acc ++ [⟨k, t, q.1, q.2⟩]) q' := by
  have hd := List.drop_eq_getElem_cons hlt
  have hne : s.drop i ≠ [] := by rw [hd]; exact List.cons_ne_nil _ _
  have hl : LastA (s.drop i) n := by
    rw [hd] at ht ⊢
    exact tok_last _ _ ht
  obtain ⟨h1, c, hc, hc2⟩ := hl
  obtain ⟨q', hq⟩ := bnd_low _ (s.drop i) q n c (Nat.le_refl _) h1 hc hc2
  have hn := tok_n _ hne ht
  rw [List.length_drop] at hn
  refine ⟨h1, q', by omega, h.hb.trans hq, ?_⟩
  have h4 := hq.jump (s.length - i) (s.length - (i + n)) (acc ++ [⟨k, t, q.1, q.2⟩]) (by rw [List.length_drop]; exact Nat.le_refl _) (by rw [List.length_drop, List.length_drop]; omega)
  rw [List.drop_drop] at h4
  rw [← h4, h.hv, show s.length - i = (s.length - (i + 1)) + 1 by omega, scan_tok hne rfl (by rw [hd, dec_test blankU (fun r h => blankU_low h)]; exact hb), ht]
  simp only
  rw [scan_skip hne (by rintro ⟨h5, _⟩; omega)]
theorem RefI.fin {s : List UInt8} {V : ScanR} {i : Nat} {acc : List TokD} {q : Int × Int} (h : RefI s V i acc q) (hlt : i = s.length) : V = .good (acc ++ [endTok q]) := by
  rw [h.hv, hlt, List.drop_length, scan_nil]
end Go.Proofs.YtmifjfohanegiaaGreatDoor
