/-
  Plain: a token that is written anew, with a blank or nothing behind, is scanned as it was.
-/
import Derived.Test.YtmifjfohanegiaaGreatDoorPlcM
import Derived.Test.YtmifjfohanegiaaGreatDoorRplE
namespace Go.Proofs.YtmifjfohanegiaaGreatDoor
set_option linter.unusedVariables false
open Go.RowKit Go.Shelf

/-- nothing, or a blank ahead -/
def BlL (r : List UInt8) : Prop := r = [] ∨ ∃ x m, r = x :: m ∧ blankU x.toNat = true
theorem bl_of {x : UInt8} (h : blankU x.toNat = true) : x = 32 ∨ x = 9 ∨ x = 10 ∨ x = 13 := by
  unfold blankU at h
  simp only [Bool.or_eq_true, beq_iff_eq] at h
  rcases h with ((h | h) | h) | h
  · exact .inl (UInt8.toNat.inj h)
  · exact .inr (.inl (UInt8.toNat.inj h))
  · exact .inr (.inr (.inl (UInt8.toNat.inj h)))
  · exact .inr (.inr (.inr (UInt8.toNat.inj h)))
theorem bl_all {p : UInt8 → Bool} (h32 : p 32 = false) (h9 : p 9 = false) (h10 : p 10 = false) (h13 : p 13 = false) : ∀ x : UInt8, blankU x.toNat = true → p x = false := fun x hx => by
  rcases bl_of hx with rfl | rfl | rfl | rfl <;> assumption
theorem tw_ext {p : UInt8 → Bool} (hp : ∀ x : UInt8, blankU x.toNat = true → p x = false) {r : List UInt8} (hr : BlL r) : ∀ (X : List UInt8) (k : Nat), (X.takeWhile p).length ≤ k → (X.take k ++ r).takeWhile p = X.takeWhile p := by
  have h0 : r.takeWhile p = [] := by
    rcases hr with rfl | ⟨x, m, rfl, hx⟩
    · rfl
    · rw [List.takeWhile_cons, hp x hx]; rfl
  intro X
  induction X with
  | nil => intro k _; rw [List.take_nil, List.nil_append, h0]; rfl
  | cons c t ih =>
    intro k hk
    rw [List.takeWhile_cons] at hk ⊢
    cases hc : p c
    · rw [hc] at hk
      cases k with
      | zero => rw [List.take_zero, List.nil_append, h0]; rfl
      | succ k => rw [List.take_succ_cons, List.cons_append, List.takeWhile_cons, hc]; rfl
    · rw [hc] at hk
      simp only [if_true, List.length_cons] at hk
      cases k with
      | zero => omega
      | succ k => rw [List.take_succ_cons, List.cons_append, List.takeWhile_cons, hc, ih k (by omega)]
theorem get_ext {s : List UInt8} {N i : Nat} (r : List UInt8) (hi : i < N) (hN : N ≤ s.length) : (s.take N ++ r)[i]? = s[i]? := by
  rw [List.getElem?_append_left (by rw [List.length_take]; omega), List.getElem?_take, if_pos hi]
theorem get_end {s r : List UInt8} {N : Nat} (hN : N ≤ s.length) (hr : BlL r) : (s.take N ++ r)[N]? = none ∨ ∃ x, (s.take N ++ r)[N]? = some x ∧ blankU x.toNat = true := by
  have hl : (s.take N).length = N := by rw [List.length_take]; omega
  rw [List.getElem?_append_right (by omega), hl, Nat.sub_self]
  rcases hr with rfl | ⟨x, m, rfl, hx⟩
  · exact .inl rfl
  · exact .inr ⟨x, rfl, hx⟩
theorem drop_ext {s : List UInt8} {N j : Nat} (r : List UInt8) (hj : j ≤ N) (hN : N ≤ s.length) : (s.take N ++ r).drop j = (s.drop j).take (N - j) ++ r := by
  rw [List.drop_append_of_le_length (by rw [List.length_take]; omega), List.drop_take]
theorem sgn_ext {s : List UInt8} {N j : Nat} (r : List UInt8) (hj : j < N) (hN : N ≤ s.length) : sgnN ((s.take N ++ r).drop j) = sgnN (s.drop j) := by
  rw [drop_ext r (Nat.le_of_lt hj) hN, List.drop_eq_getElem_cons (show j < s.length by omega), show N - j = (N - j - 1) + 1 by omega, List.take_succ_cons]
  rfl
theorem num3_ext {s r : List UInt8} {N : Nat} (hN : N ≤ s.length) (hr : BlL r) : num3T (s.take N ++ r) N = N := by
  unfold num3T
  rcases get_end hN hr with h | ⟨x, h, hx⟩
  · rw [h]
  · rw [h]
    have := bl_all (p := stopN) (by decide) (by decide) (by decide) (by decide) x hx
    simp [this]
theorem dg_bl : ∀ x : UInt8, blankU x.toNat = true → isDg x = false := bl_all (by decide) (by decide) (by decide) (by decide)
theorem num2_ext {s r : List UInt8} {n N : Nat} (h : num2T s n = N) (h0 : N ≠ 0) (hN : N ≤ s.length) (hr : BlL r) : num2T (s.take N ++ r) n = N := by
  have hend : N = n → num2T (s.take N ++ r) n = N := fun e => by
    subst e
    unfold num2T
    rcases get_end hN hr with h | ⟨x, h, hx⟩
    · rw [h]; exact num3_ext hN hr
    · rw [h]
      have := bl_all (p := isEe) (by decide) (by decide) (by decide) (by decide) x hx
      simp only [this]
      exact num3_ext hN hr
  by_cases hn : n < s.length
  · have h' := h
    unfold num2T at h'
    rw [at_some hn] at h'
    simp only at h'
    split at h'
    · rename_i hE
      split at h'
      · exact absurd h'.symm h0
      · rename_i htw
        have hNe := num3_nz h' h0
        have hlt : n < N := by omega
        unfold num2T
        rw [get_ext r hlt hN, at_some hn]
        simp only [hE, if_true]
        have hpos : 0 < (tw (s.drop (n + 1 + sgnN (s.drop (n + 1))))).length := List.length_pos_iff.2 htw
        have e1 : sgnN ((s.take N ++ r).drop (n + 1)) = sgnN (s.drop (n + 1)) := sgn_ext r (by omega) hN
        rw [e1]
        have e2 : tw ((s.take N ++ r).drop (n + 1 + sgnN (s.drop (n + 1)))) = tw (s.drop (n + 1 + sgnN (s.drop (n + 1)))) := by
          rw [drop_ext r (by omega) hN]
          exact tw_ext dg_bl hr _ _ (by show (tw _).length ≤ _; omega)
        rw [e2, if_neg htw, ← hNe]
        exact num3_ext hN hr
    · exact hend (num3_nz h' h0)
  · rw [num2_end hn] at h
    exact hend h.symm
theorem num1_ext {s r : List UInt8} {n N : Nat} (h : num1T s n = N) (h0 : N ≠ 0) (hN : N ≤ s.length) (hr : BlL r) : num1T (s.take N ++ r) n = N := by
  by_cases hn : n < s.length
  · have h' := h
    unfold num1T at h'
    rw [at_some hn] at h'
    simp only at h'
    split at h'
    · rename_i hE
      split at h'
      · exact absurd h'.symm h0
      · rename_i htw
        obtain ⟨h1, -⟩ := cutE_take h' h0
        have hlt : n < N := by omega
        unfold num1T
        rw [get_ext r hlt hN, at_some hn]
        simp only [hE, if_true]
        have e2 : tw ((s.take N ++ r).drop (n + 1)) = tw (s.drop (n + 1)) := by
          rw [drop_ext r (by omega) hN]
          exact tw_ext dg_bl hr _ _ (by show (tw _).length ≤ _; omega)
        rw [e2, if_neg htw]
        exact num2_ext h' h0 hN hr
    · rename_i hE
      obtain ⟨h1, -⟩ := cutE_take h' h0
      have h2 := num2_ext h' h0 hN hr
      unfold num1T
      by_cases hlt : n < N
      · rw [get_ext r hlt hN, at_some hn]
        simp only
        rw [if_neg hE]; exact h2
      · obtain rfl : N = n := by omega
        rcases get_end hN hr with h3 | ⟨x, h3, hx⟩
        · rw [h3]; exact h2
        · rw [h3]
          have := bl_all (p := fun c => c == 46) (by decide) (by decide) (by decide) (by decide) x hx
          simp only
          rw [if_neg (by simpa using this)]; exact h2
  · rw [num1_end hn] at h
    subst h
    have hN2 : n = s.length := by omega
    unfold num1T
    have h2 : num2T (s.take n ++ r) n = n := num2_ext (num2_end hn) h0 hN hr
    rcases get_end hN hr with h3 | ⟨x, h3, hx⟩
    · rw [h3]; exact h2
    · rw [h3]
      have := bl_all (p := fun c => c == 46) (by decide) (by decide) (by decide) (by decide) x hx
      simp only
      rw [if_neg (by simpa using this)]; exact h2
theorem num_ext {s r : List UInt8} {N : Nat} (h : numN s = N) (h0 : N ≠ 0) (hr : BlL r) : numN (s.take N ++ r) = N := by
  have hN : N ≤ s.length := by have := numN_le s; omega
  have h1 : num1T s (sgnN s + (tw (s.drop (sgnN s))).length) = N := h
  obtain ⟨h2, -⟩ := cutP_take h1 h0
  have e1 : sgnN (s.take N ++ r) = sgnN s := by
    have := sgn_ext (j := 0) r (by omega) hN
    simpa using this
  unfold numN
  rw [e1, drop_ext r (by omega) hN, show tw ((s.drop (sgnN s)).take (N - sgnN s) ++ r) = tw (s.drop (sgnN s)) from tw_ext dg_bl hr _ _ (by show (tw _).length ≤ _; omega)]
  exact num1_ext h1 h0 hN hr

/-! ### texts in quotes -/
theorem endQ_esc : ∀ (t : List UInt8) (i : Nat) (r : List UInt8), endQ false i (escQ t ++ 34 :: r) = some (i + (escQ t).length)
  | [], i, r => rfl
  | c :: t, i, r => by
    have e1 : escQ (c :: t) = escB c ++ escQ t := rfl
    have ih := endQ_esc t
    rw [e1, List.append_assoc, List.length_append]
    unfold escB
    split
    · have h : endQ false i ([92, c] ++ (escQ t ++ 34 :: r)) = endQ false (i + 1 + 1) (escQ t ++ 34 :: r) := rfl
      rw [h, ih]
      show some (i + 1 + 1 + (escQ t).length) = some (i + (2 + (escQ t).length))
      congr 1
      omega
    · rename_i hc
      have h : endQ false i ([c] ++ (escQ t ++ 34 :: r)) = endQ false (i + 1) (escQ t ++ 34 :: r) := by
        show (if c = 92 then _ else if c = 34 then _ else _) = _
        rw [if_neg (fun h => hc (.inl h)), if_neg (fun h => hc (.inr h))]; rfl
      rw [h, ih]
      show some (i + 1 + (escQ t).length) = some (i + (1 + (escQ t).length))
      congr 1
      omega
theorem unq_escQ : ∀ (t acc : List UInt8), unq acc (escQ t ++ [34]) = some (acc ++ t, [34])
  | [], acc => by rw [List.append_nil]; exact unq_quote acc []
  | c :: t, acc => by
    have e1 : escQ (c :: t) = escB c ++ escQ t := rfl
    have ih := unq_escQ t
    rw [e1, List.append_assoc]
    unfold escB
    split
    · rename_i hc
      have h : unq acc ([92, c] ++ (escQ t ++ [34])) = if c = 34 ∨ c = 92 then unq (acc ++ [c]) (escQ t ++ [34]) else none := unq_esc
      rw [h, if_pos hc.symm, ih, List.append_assoc]
      rfl
    · rename_i hc
      have h : unq acc ([c] ++ (escQ t ++ [34])) = unq (acc ++ [c]) (escQ t ++ [34]) := unq_plain (fun h => hc (.inr h)) (fun h => hc (.inl h))
      rw [h, ih, List.append_assoc]
      rfl
theorem unqL_quo {t : List UInt8} (h : mayN t = 0) : unqL (quoL t) = .good t := by
  have e : ∃ a u, escQ t ++ [34] = a :: u := by
    cases h : escQ t with
    | nil => exact ⟨34, [], rfl⟩
    | cons a u => exact ⟨a, u ++ [34], rfl⟩
  obtain ⟨a, u, e⟩ := e
  have h2 := unq_escQ t []
  unfold quoL
  rw [e] at h2 ⊢
  show unqEnd (unq [] (a :: u)) = _
  rw [h2]
  show unqFin t = _
  unfold unqFin
  rw [if_pos h]
theorem unq_may {x t : List UInt8} (h : unqL x = .good t) : mayN t = 0 := by
  unfold unqL at h
  split at h
  · cases h
  · cases h
  · split at h
    · unfold unqEnd at h
      split at h
      · cases h
      · cases h
      · split at h
        · unfold unqFin at h
          split at h
          · rename_i h2
            cases h; exact h2
          · cases h
        · cases h
    · cases h
theorem textR_may {s t : List UInt8} {k : Int} {n : Nat} (h : textR s = .good k t n) : mayN t = 0 := by
  unfold textR at h
  split at h
  · cases h
  · split at h
    · split at h <;> cases h
    · rename_i h2
      cases h; exact unq_may h2
theorem textR_quo {t : List UInt8} (h : mayN t = 0) (r : List UInt8) : textR (quoL t ++ r) = .good 3 t (quoL t).length := by
  have e0 : (quoL t ++ r).drop 1 = escQ t ++ 34 :: r := by unfold quoL; simp
  have hl : (quoL t).length = 1 + (escQ t).length + 1 := by unfold quoL; simp; omega
  unfold textR
  rw [e0, endQ_esc]
  simp only
  rw [show 1 + (escQ t).length + 1 = (quoL t).length from hl.symm, List.take_left, unqL_quo h]

/-! ### pieces -/
def pieceT (k : Int) (t : List UInt8) : List UInt8 := if k = 3 then quoL t else t
theorem tok_piece {s : List UInt8} (hne : s ≠ []) {k : Int} {t : List UInt8} {n : Nat} (h : tokR s = .good k t n) {r : List UInt8} (hr : BlL r) : tokR (pieceT k t ++ r) = .good k t (pieceT k t).length := by
  have hn := tok_n s hne h
  obtain ⟨c, u, rfl⟩ := List.exists_cons_of_ne_nil hne
  have hb := tok_bytes c u
  rw [hb] at h
  have hcons : ∀ m, 1 ≤ m → (c :: u).take m ++ r = c :: (u.take (m - 1) ++ r) := fun m hm => by
    rw [show m = (m - 1) + 1 by omega, List.take_succ_cons]; rfl
  split at h
  · rename_i h1
    cases h
    have hld : ldC c = true := by unfold ldC; rw [h1]; rfl
    have hpos : 1 ≤ nameN (c :: u) := by unfold nameN; rw [List.takeWhile_cons, hld]; simp
    have hnm : nameN ((c :: u).take (nameN (c :: u)) ++ r) = nameN (c :: u) := by
      have := tw_ext (p := ldC) (bl_all (by decide) (by decide) (by decide) (by decide)) hr (c :: u) (nameN (c :: u)) (Nat.le_refl _)
      show (List.takeWhile ldC _).length = _
      rw [this]; rfl
    have hl : ((c :: u).take (nameN (c :: u))).length = nameN (c :: u) := by rw [List.length_take]; exact Nat.min_eq_left hn
    show tokR ((c :: u).take (nameN (c :: u)) ++ r) = .good 1 _ ((c :: u).take (nameN (c :: u))).length
    have e := hcons _ hpos
    rw [hl, e, tok_bytes, if_pos h1, ← e, hnm, List.take_left' hl]
  · rename_i h1
    split at h
    · rename_i h2
      split at h
      · cases h
      · rename_i h3
        cases h
        have hl : ((c :: u).take (numN (c :: u))).length = numN (c :: u) := by rw [List.length_take]; exact Nat.min_eq_left hn
        have e := hcons (numN (c :: u)) (by omega)
        have hnm := num_ext (s := c :: u) rfl h3 hr
        have hsg : sgC c.toNat ((c :: u).take (numN (c :: u)) ++ r) = sgC c.toNat (c :: u) := by
          unfold sgC
          by_cases hlt : 1 < numN (c :: u)
          · rw [get_ext r hlt hn]
          · have hN1 : numN (c :: u) = 1 := by omega
            have hdg : dgU c.toNat = true := by
              rw [Bool.or_eq_true] at h2
              rcases h2 with h2 | h2
              · exact h2
              · exfalso
                have h5 := num_first c u (by rw [h2]; simp)
                have h6 : num1T (c :: u) (sgnN (c :: u) + (tw ((c :: u).drop (sgnN (c :: u)))).length) = 1 := hN1
                obtain ⟨h7, -⟩ := cutP_take h6 (by decide)
                have h8 := List.length_pos_iff.2 h5
                have h9 : sgnN (c :: u) = 1 := by
                  unfold sgC at h2
                  rw [Bool.and_eq_true, Bool.or_eq_true, beq_iff_eq, beq_iff_eq] at h2
                  show (if isSg c = true then 1 else 0) = 1
                  rw [if_pos ((isSg_iff c).2 (h2.1.imp (fun h => UInt8.toNat.inj h) (fun h => UInt8.toNat.inj h)))]
                omega
            have : (c.toNat == 43 || c.toNat == 45) = false := by
              rw [dgU_iff] at hdg
              rw [Bool.or_eq_false_iff, beq_eq_false_iff_ne, beq_eq_false_iff_ne]; omega
            rw [this]; rfl
        show tokR ((c :: u).take (numN (c :: u)) ++ r) = .good 2 _ ((c :: u).take (numN (c :: u))).length
        rw [hl]
        rw [e] at hsg hnm ⊢
        rw [tok_bytes, if_neg h1, hsg, if_pos h2, hnm, if_neg h3, ← e, List.take_left' hl]
    · rename_i h2
      split at h
      · rename_i h3
        have hk : k = 3 := by
          unfold textR at h
          split at h
          · cases h
          · split at h
            · split at h <;> cases h
            · cases h; rfl
        have hm := textR_may h
        subst hk
        show tokR (quoL t ++ r) = .good 3 t (quoL t).length
        have e : quoL t ++ r = 34 :: ((escQ t ++ [34]) ++ r) := rfl
        rw [e, tok_bytes, if_neg (by decide), if_neg (by simp [sgC, dgU]), if_pos rfl, ← e]
        exact textR_quo hm r
      · rename_i h3
        have hc2 : dgU c.toNat = false := by rw [Bool.not_eq_true, Bool.or_eq_false_iff] at h2; exact h2.1
        split at h
        · rename_i h4
          cases h
          show tokR ([c] ++ r) = .good 4 [c] 1
          have hs2 : sgC c.toNat (c :: r) = false := by
            unfold sgC
            have : (c.toNat == 43 || c.toNat == 45) = false := by
              rw [Bool.or_eq_false_iff, beq_eq_false_iff_ne, beq_eq_false_iff_ne]
              constructor <;> intro h5 <;> rw [h5] at h4 <;> exact absurd h4 (by decide)
            rw [this]; rfl
          rw [show [c] ++ r = c :: r from rfl, tok_bytes, if_neg h1, hc2, hs2, if_neg (by decide), if_neg h3, if_pos h4]
        · rename_i h4
          split at h
          · rename_i h5
            cases h
            have hl3 := ordB_len h5
            have hl : ((c :: u).take 3).length = 3 := by rw [List.length_take]; omega
            have e := hcons 3 (by decide)
            have ho : ordB ((c :: u).take 3 ++ r) = true := by
              unfold ordB at h5 ⊢
              rw [List.take_left' hl]; exact h5
            have hc64 : c = 64 := by
              unfold ordB at h5
              simp only [Bool.or_eq_true, beq_iff_eq, List.take_succ_cons] at h5
              rcases h5 with ((h5 | h5) | h5) | h5 <;> exact (List.cons.inj h5).1
            show tokR ((c :: u).take 3 ++ r) = .good 4 _ ((c :: u).take 3).length
            rw [hl]
            have hs2 : sgC c.toNat ((c :: u).take 3 ++ r) = false := by rw [hc64]; rfl
            rw [e] at ho hs2 ⊢
            rw [tok_bytes, if_neg h1, hc2, hs2, if_neg (by decide), if_neg h3, if_neg h4, if_pos ho, ← e, List.take_left' hl]
          · cases h
/-- a token's piece begins with what is no blank -/
theorem tok_nb {c : UInt8} {u : List UInt8} {k : Int} {t : List UInt8} {n : Nat} (h : tokR (c :: u) = .good k t n) : blankU c.toNat = false := by
  cases hb : blankU c.toNat
  · rfl
  · exfalso
    rw [tok_bytes] at h
    rcases bl_of hb with rfl | rfl | rfl | rfl
    all_goals
      rw [if_neg (by decide), if_neg (by simp [sgC, dgU]), if_neg (by decide), if_neg (by decide), if_neg (by simp [ordB])] at h
      cases h
end Go.Proofs.YtmifjfohanegiaaGreatDoor
