/-
  Plain: what a scan's tokens stand for: their places rise, they stand where they say, numbers are read.
-/
import Derived.Test.YtmifjfohanegiaaGreatDoorRlxM
import Derived.Test.YtmifjfohanegiaaGreatDoorRlxN
namespace Go.Proofs.YtmifjfohanegiaaGreatDoor
set_option linter.unusedVariables false
open Go.RowKit Go.Shelf

/-- one place behind another -/
def AftP (r q : Int × Int) : Prop := q.1 < r.1 ∨ r.1 = q.1 ∧ q.2 < r.2
theorem AftP.trans {a b c : Int × Int} (h : AftP a b) (h2 : AftP b c) : AftP a c := by unfold AftP at *; omega
theorem AftP.irr {a : Int × Int} (h : AftP a a) : False := by unfold AftP at h; omega
theorem aft_next (p : Int × Int) (r : Nat) : AftP (nextP p r) p := by
  unfold AftP nextP
  split
  · left; show p.1 < p.1 + 1; omega
  · right; exact ⟨rfl, by show p.2 < p.2 + 1; omega⟩
theorem Bnd.aft {s : List UInt8} {p q : Int × Int} {n : Nat} (h : Bnd s p n q) : q = p ∧ n = 0 ∨ AftP q p := by
  induction h with
  | zero s p => exact .inl ⟨rfl, rfl⟩
  | step s p n q hne h ih =>
    rcases ih with ⟨rfl, _⟩ | h2
    · exact .inr (aft_next _ _)
    · exact .inr (h2.trans (aft_next _ _))
theorem Bnd.rise {s : List UInt8} {p q : Int × Int} {i : Nat} (h : Bnd s p i q) : ∀ {j : Nat} {r : Int × Int}, Bnd s p j r → i < j → AftP r q := by
  induction h with
  | zero s p =>
    intro j r h2 hij
    rcases h2.aft with ⟨_, h3⟩ | h3
    · omega
    · exact h3
  | step s p n q hne h ih =>
    intro j r h2 hij
    cases h2 with
    | zero => omega
    | step _ _ m _ _ h3 => exact ih h3 (by omega)
theorem Bnd.uniq {s : List UInt8} {p q : Int × Int} {i j : Nat} (h : Bnd s p i q) (h2 : Bnd s p j q) : i = j := by
  rcases Nat.lt_trichotomy i j with h3 | h3 | h3
  · exact (h.rise h2 h3).irr.elim
  · exact h3
  · exact (h2.rise h h3).irr.elim

/-- tokens from a place on -/
inductive Chain (s : List UInt8) : Nat → List TokD → Prop where
  | fin (n : Nat) (q : Int × Int) (hn : n ≤ s.length) (hb : Bnd s (1, 1) s.length q) : Chain s n [endTok q]
  | tok (n i m : Nat) (t : TokD) (r : List TokD) (hn : n ≤ i) (hi : i < s.length) (hb : Bnd s (1, 1) i (t.line, t.col)) (ht : tokR (s.drop i) = .good t.kind t.text m) (hm : 1 ≤ m) (hr : Chain s (i + m) r) : Chain s n (t :: r)
theorem Chain.mono {s : List UInt8} {n k : Nat} {l : List TokD} (h : Chain s n l) (hk : k ≤ n) : Chain s k l := by
  cases h with
  | fin _ q hn hb => exact .fin _ q (by omega) hb
  | tok _ i m t r hn hi hb ht hm hr => exact .tok _ i m t r (by omega) hi hb ht hm hr
theorem RefI.chain {s : List UInt8} {V : ScanR} {l : List TokD} (hV : V = .good l) : ∀ (f i : Nat) (acc : List TokD) (q : Int × Int), s.length - i ≤ f → RefI s V i acc q → ∃ r, l = acc ++ r ∧ Chain s i r := by
  have done : ∀ (i : Nat) (acc : List TokD) (q : Int × Int), i = s.length → RefI s V i acc q → ∃ r, l = acc ++ r ∧ Chain s i r := fun i acc q hi h => by
    have h2 := h.fin hi
    rw [hV] at h2
    injection h2 with h2
    subst hi
    exact ⟨[endTok q], h2, .fin _ q (Nat.le_refl _) h.hb⟩
  intro f
  induction f with
  | zero => intro i acc q hf h; exact done i acc q (by have := h.hk; omega) h
  | succ f ih =>
    intro i acc q hf h
    by_cases hlt : i < s.length
    · cases hb : blankU s[i].toNat
      · cases ht : tokR (s.drop i) with
        | bad e =>
          have := h.bad hlt hb ht
          rw [hV] at this
          cases this
        | good k t n =>
          obtain ⟨h1, q', h2⟩ := h.good hlt hb ht
          obtain ⟨r, h3, h4⟩ := ih (i + n) _ q' (by omega) h2
          exact ⟨⟨k, t, q.1, q.2⟩ :: r, by rw [h3, List.append_assoc]; rfl, .tok _ i n ⟨k, t, q.1, q.2⟩ r (Nat.le_refl _) hlt h.hb ht h1 h4⟩
      · obtain ⟨q', h2⟩ := h.blank hlt hb
        obtain ⟨r, h3, h4⟩ := ih (i + 1) _ q' (by omega) h2
        exact ⟨r, h3, h4.mono (Nat.le_succ _)⟩
    · exact done i acc q (by have := h.hk; omega) h
theorem scanL_chain {s : List UInt8} {l : List TokD} (h : scanL s = .good l) : Chain s 0 l := by
  have h2 : scanL s = scanF s.length s 0 (1, 1) [] := by
    rcases checkV_or s with ⟨_, _, h3⟩ | ⟨_, _, _, h3⟩
    · exact h3
    · rw [h] at h3; cases h3
  have h3 : RefI s (scanL s) 0 [] (1, 1) := ⟨Nat.zero_le _, .zero _ _, h2⟩
  obtain ⟨r, h4, h5⟩ := RefI.chain h s.length 0 [] (1, 1) (by omega) h3
  rw [List.nil_append] at h4
  rw [h4]; exact h5
/-- what is known of the i-th token -/
structure TokAt (s : List UInt8) (l : List TokD) (i : Nat) (h : i < l.length) (k : Nat) : Prop where
  bnd : Bnd s (1, 1) k (l[i].line, l[i].col)
  last : i + 1 = l.length → l[i].kind = 0 ∧ l[i].text = []
  tok : i + 1 < l.length → k < s.length ∧ ∃ m, tokR (s.drop k) = .good l[i].kind l[i].text m
theorem Chain.at {s : List UInt8} {n : Nat} {l : List TokD} (hc : Chain s n l) : ∀ (i : Nat) (h : i < l.length), ∃ k, n ≤ k ∧ TokAt s l i h k ∧ ∀ h2 : i + 1 < l.length, ∃ k', k < k' ∧ TokAt s l (i + 1) h2 k' := by
  induction hc with
  | fin n q hn hb =>
    intro i h
    have : i = 0 := by simpa using h
    subst this
    exact ⟨s.length, hn, ⟨hb, fun _ => ⟨rfl, rfl⟩, fun h2 => absurd h2 (by simp)⟩, fun h2 => absurd h2 (by simp)⟩
  | tok n i m t r hn hi hb ht hm hr ih =>
    have hrl : 0 < r.length := by cases hr <;> simp
    intro j h
    cases j with
    | zero =>
      refine ⟨i, hn, ⟨hb, fun h2 => ?_, fun _ => ⟨hi, m, ht⟩⟩, fun h2 => ?_⟩
      · rw [List.length_cons] at h2; omega
      · obtain ⟨k, h3, h4, _⟩ := ih 0 hrl
        exact ⟨k, by omega, ⟨h4.bnd, fun h5 => h4.last (by rw [List.length_cons] at h5; omega), fun h5 => h4.tok (by rw [List.length_cons] at h5; omega)⟩⟩
    | succ j =>
      have hj : j < r.length := by simpa using h
      obtain ⟨k, h3, h4, h6⟩ := ih j hj
      refine ⟨k, by omega, ⟨h4.bnd, fun h5 => h4.last (by simpa using h5), fun h5 => h4.tok (by simpa using h5)⟩, fun h2 => ?_⟩
      obtain ⟨k', h7, h8⟩ := h6 (by simpa using h2)
      exact ⟨k', h7, ⟨h8.bnd, fun h5 => h8.last (by simpa using h5), fun h5 => h8.tok (by simpa using h5)⟩⟩
theorem Chain.ne {s : List UInt8} {n : Nat} {l : List TokD} (hc : Chain s n l) : 0 < l.length := by cases hc <;> simp

/-- the text of a token that is no text in quotes -/
theorem tok_text {s : List UInt8} {k : Int} {t : List UInt8} {n : Nat} (h : tokR s = .good k t n) (h3 : k ≠ 3) : t = s.take n := by
  unfold tokR at h
  split at h
  · cases h; rfl
  · split at h
    · split at h
      · cases h
      · cases h; rfl
    · split at h
      · unfold textR at h
        split at h
        · cases h
        · split at h
          · split at h <;> cases h
          · cases h; exact absurd rfl h3
      · split at h
        · cases h; rfl
        · split at h
          · cases h; rfl
          · cases h

/-! ### numbers are read -/
theorem tw_take : ∀ (l : List UInt8) (k : Nat), tw (l.take k) = (tw l).take k
  | [], k => by simp [tw]
  | c :: t, 0 => by simp [tw]
  | c :: t, k + 1 => by
    rw [List.take_succ_cons]
    cases h : isDg c
    · rw [tw_stop h, tw_stop h]; simp
    · rw [tw_cons h, tw_cons h, List.take_succ_cons, tw_take t k]
theorem dw_drop : ∀ (l : List UInt8), dw l = l.drop (tw l).length
  | [] => rfl
  | c :: t => by
    cases h : isDg c
    · rw [tw_stop h, dw_stop h]; rfl
    · rw [tw_cons h, dw_cons h, dw_drop t]; rfl
theorem dw_take (l : List UInt8) (k : Nat) (h : (tw l).length ≤ k) : dw (l.take k) = (l.drop (tw l).length).take (k - (tw l).length) := by
  rw [dw_drop, tw_take, List.length_take, Nat.min_eq_right h, List.drop_take]
theorem tw_take_all (l : List UInt8) (k : Nat) (h : (tw l).length ≤ k) : tw (l.take k) = tw l := by
  rw [tw_take, List.take_of_length_le h]
theorem cutS_take : ∀ (l : List UInt8) (k : Nat), (cutS (l.take (sgnN l + k))).2 = (l.drop (sgnN l)).take k
  | [], k => by simp [cutS]
  | c :: t, k => by
    show (cutS ((c :: t).take ((if isSg c = true then 1 else 0) + k))).2 = ((c :: t).drop (if isSg c = true then 1 else 0)).take k
    cases h : isSg c
    · rw [if_neg (by decide), Nat.zero_add]
      cases k with
      | zero => rfl
      | succ k => simp [cutS, h]
    · rw [if_pos rfl, Nat.add_comm, List.take_succ_cons]
      simp [cutS, h]
theorem num3_nz {s : List UInt8} {n N : Nat} (h : num3T s n = N) (hN : N ≠ 0) : N = n := by
  rw [num3_at] at h
  split at h
  · exact absurd h.symm hN
  · exact h.symm
theorem cutE_take {s : List UInt8} {n N : Nat} (h : num2T s n = N) (hN : N ≠ 0) : n ≤ N ∧ ∃ d p, cutE ((s.drop n).take (N - n)) = some (d, p, []) := by
  by_cases hn : n < s.length
  · unfold num2T at h
    rw [at_some hn] at h
    simp only at h
    split at h
    · rename_i hE
      split at h
      · exact absurd h.symm hN
      · rename_i htw
        have := num3_nz h hN
        refine ⟨by omega, (cutS ((s.drop (n + 1)).take (sgnN (s.drop (n + 1)) + (tw (s.drop (n + 1 + sgnN (s.drop (n + 1))))).length))).1, tw (s.drop (n + 1 + sgnN (s.drop (n + 1)))), ?_⟩
        rw [List.drop_eq_getElem_cons hn, show N - n = (sgnN (s.drop (n + 1)) + (tw (s.drop (n + 1 + sgnN (s.drop (n + 1))))).length) + 1 by omega, List.take_succ_cons]
        unfold cutE
        simp only [hE, if_true]
        have h1 := cutS_take (s.drop (n + 1)) (tw (s.drop (n + 1 + sgnN (s.drop (n + 1))))).length
        rw [List.drop_drop] at h1
        rw [h1, tw_take_all _ _ (Nat.le_refl _), if_neg htw, dw_take _ _ (Nat.le_refl _), Nat.sub_self, List.take_zero]
    · have := num3_nz h hN
      subst this
      exact ⟨Nat.le_refl _, false, [], by rw [Nat.sub_self, List.take_zero]; rfl⟩
  · rw [num2_end hn] at h
    subst h
    exact ⟨Nat.le_refl _, false, [], by rw [Nat.sub_self, List.take_zero]; rfl⟩
theorem cutP_take {s : List UInt8} {n N : Nat} (h : num1T s n = N) (hN : N ≠ 0) : n ≤ N ∧ ∃ b r d p, cutP ((s.drop n).take (N - n)) = some (b, r) ∧ cutE r = some (d, p, []) := by
  by_cases hn : n < s.length
  · unfold num1T at h
    rw [at_some hn] at h
    simp only at h
    split at h
    · rename_i hE
      split at h
      · exact absurd h.symm hN
      · rename_i htw
        obtain ⟨h1, d, p, h2⟩ := cutE_take h hN
        refine ⟨by omega, tw (s.drop (n + 1)), (s.drop (n + (1 + (tw (s.drop (n + 1))).length))).take (N - (n + (1 + (tw (s.drop (n + 1))).length))), d, p, ?_, h2⟩
        rw [List.drop_eq_getElem_cons hn, show N - n = (N - n - 1) + 1 by omega, List.take_succ_cons, hE]
        unfold cutP
        simp only [if_true]
        rw [tw_take_all _ _ (by omega), if_neg htw, dw_take _ _ (by omega), List.drop_drop, show n + 1 + (tw (s.drop (n + 1))).length = n + (1 + (tw (s.drop (n + 1))).length) by omega, show N - n - 1 - (tw (s.drop (n + 1))).length = N - (n + (1 + (tw (s.drop (n + 1))).length)) by omega]
    · rename_i hE
      obtain ⟨h1, d, p, h2⟩ := cutE_take h hN
      refine ⟨h1, [], (s.drop n).take (N - n), d, p, ?_, h2⟩
      rw [List.drop_eq_getElem_cons hn]
      cases hk : N - n with
      | zero => rfl
      | succ k => rw [List.take_succ_cons]; unfold cutP; simp only; rw [if_neg hE]
  · rw [num1_end hn] at h
    subst h
    exact ⟨Nat.le_refl _, [], [], false, [], by rw [Nat.sub_self, List.take_zero]; rfl, rfl⟩
theorem num_read {s : List UInt8} (h1 : tw (s.drop (sgnN s)) ≠ []) (h2 : numN s ≠ 0) : ∃ x, readL (s.take (numN s)) = some x := by
  obtain ⟨N, hN⟩ : ∃ N, numN s = N := ⟨_, rfl⟩
  rw [hN] at h2 ⊢
  have h3 : num1T s (sgnN s + (tw (s.drop (sgnN s))).length) = N := hN
  obtain ⟨h4, b, r, d, p, h5, h6⟩ := cutP_take h3 h2
  have e := cutS_take s (N - sgnN s)
  rw [show sgnN s + (N - sgnN s) = N by omega] at e
  rw [r0, e, tw_take_all _ _ (by omega), if_neg h1, dw_take _ _ (by omega), List.drop_drop, show N - sgnN s - (tw (s.drop (sgnN s))).length = N - (sgnN s + (tw (s.drop (sgnN s))).length) by omega]
  unfold outP
  rw [h5]
  simp only
  unfold outE
  rw [h6]
  simp
theorem tok_num {s : List UInt8} (hne : s ≠ []) {t : List UInt8} {n : Nat} (h : tokR s = .good 2 t n) : ∃ x, readL t = some x := by
  obtain ⟨c, u, rfl⟩ := List.exists_cons_of_ne_nil hne
  rw [tok_bytes] at h
  split at h
  · cases h
  · split at h
    · rename_i h2
      split at h
      · cases h
      · rename_i h3
        cases h
        exact num_read (num_first c u h2) h3
    · split at h
      · unfold textR at h
        split at h
        · cases h
        · split at h
          · split at h <;> cases h
          · cases h
      · split at h
        · cases h
        · split at h <;> cases h
end Go.Proofs.YtmifjfohanegiaaGreatDoor
