/-
  Contract of busbarkit's Pick.
-/
import Derived.Test.YtmifjfohanegiaaGreatDoorPlcA
import Derived.Test.YtmifjfohanegiaaGreatDoorRplE
import Derived.Test.YtmifjfohanegiaaGreatDoorRows
import Derived.Test.YtmifjfohanegiaaGreatDoorBaseD

namespace Go.Proofs.YtmifjfohanegiaaGreatDoor
set_option linter.unusedVariables false
open Go.RowKit Go.Shelf

/-- nothing, or a blank ahead -/
def BlL (r : List UInt8) : Prop := r = [] ∨ ∃ x m, r = x :: m ∧ blankU x.toNat = true
theorem bl_of {x : UInt8} (h : blankU x.toNat = true) : x = 32 ∨ x = 9 ∨ x = 10 ∨ x = 13 := by
  unfold blankU at h
  simp only [Bool.or_eq_true, beq_iff_eq] at h
  rcases h with ((h | h) | h) | h
  · exact .inl (UInt8.toNat.inj h)
  · exact .inr (.inl (UInt8.toNat.inj h))
  · exact .inr (.inr (.inl (UInt8.toNat.inj h)))
  · exact .inr (.inr (.inr (UInt8.toNat.inj h)))
theorem bl_all {p : UInt8 → Bool} (h32 : p 32 = false) (h9 : p 9 = false) (h10 : p 10 = false) (h13 : p 13 = false) : ∀ x : UInt8, blankU x.toNat = true → p x = false := fun x hx => by
  rcases bl_of hx with rfl | rfl | rfl | rfl <;> assumption
theorem tw_ext {p : UInt8 → Bool} (hp : ∀ x : UInt8, blankU x.toNat = true → p x = false) {r : List UInt8} (hr : BlL r) : ∀ (X : List UInt8) (k : Nat), (X.takeWhile p).length ≤ k → (X.take k ++ r).takeWhile p = X.takeWhile p := by
  have h0 : r.takeWhile p = [] := by
    rcases hr with rfl | ⟨x, m, rfl, hx⟩
    · rfl
    · rw [List.takeWhile_cons, hp x hx]; rfl
  intro X
  induction X with
  | nil => intro k _; rw [List.take_nil, List.nil_append, h0]; rfl
  | cons c t ih =>
    intro k hk
    rw [List.takeWhile_cons] at hk ⊢
    cases hc : p c
    · rw [hc] at hk
      cases k with
      | zero => rw [List.take_zero, List.nil_append, h0]; rfl
      | succ k => rw [List.take_succ_cons, List.cons_append, List.takeWhile_cons, hc]; rfl
    · rw [hc] at hk
      simp only [if_true, List.length_cons] at hk
      cases k with
      | zero => omega
      | succ k => rw [List.take_succ_cons, List.cons_append, List.takeWhile_cons, hc, ih k (by omega)]
theorem get_ext {s : List UInt8} {N i : Nat} (r : List UInt8) (hi : i < N) (hN : N ≤ s.length) : (s.take N ++ r)[i]? = s[i]? := by
  rw [List.getElem?_append_left (by rw [List.length_take]; omega), List.getElem?_take, if_pos hi]
theorem get_end {s r : List UInt8} {N : Nat} (hN : N ≤ s.length) (hr : BlL r) : (s.take N ++ r)[N]? = none ∨ ∃ x, (s.take N ++ r)[N]? = some x ∧ blankU x.toNat = true := by
  have hl : (s.take N).length = N := by rw [List.length_take]; omega
  rw [List.getElem?_append_right (by omega), hl, Nat.sub_self]
  rcases hr with rfl | ⟨x, m, rfl, hx⟩
  · exact .inl rfl
  · exact .inr ⟨x, rfl, hx⟩
theorem drop_ext {s : List UInt8} {N j : Nat} (r : List UInt8) (hj : j ≤ N) (hN : N ≤ s.length) : (s.take N ++ r).drop j = (s.drop j).take (N - j) ++ r := by
  rw [List.drop_append_of_le_length (by rw [List.length_take]; omega), List.drop_take]
theorem sgn_ext {s : List UInt8} {N j : Nat} (r : List UInt8) (hj : j < N) (hN : N ≤ s.length) : sgnN ((s.take N ++ r).drop j) = sgnN (s.drop j) := by
  rw [drop_ext r (Nat.le_of_lt hj) hN, List.drop_eq_getElem_cons (show j < s.length by omega), show N - j = (N - j - 1) + 1 by omega, List.take_succ_cons]
  rfl
theorem num3_ext {s r : List UInt8} {N : Nat} (hN : N ≤ s.length) (hr : BlL r) : num3T (s.take N ++ r) N = N := by
  unfold num3T
  rcases get_end hN hr with h | ⟨x, h, hx⟩
  · rw [h]
  · rw [h]
    have := bl_all (p := stopN) (by decide) (by decide) (by decide) (by decide) x hx
    simp [this]
theorem dg_bl : ∀ x : UInt8, blankU x.toNat = true → isDg x = false := bl_all (by decide) (by decide) (by decide) (by decide)
theorem num2_ext {s r : List UInt8} {n N : Nat} (h : num2T s n = N) (h0 : N ≠ 0) (hN : N ≤ s.length) (hr : BlL r) : num2T (s.take N ++ r) n = N := by
  have hend : N = n → num2T (s.take N ++ r) n = N := fun e => by
    subst e
    unfold num2T
    rcases get_end hN hr with h | ⟨x, h, hx⟩
    · rw [h]; exact num3_ext hN hr
    · rw [h]
      have := bl_all (p := isEe) (by decide) (by decide) (by decide) (by decide) x hx
      simp only [this]
      exact num3_ext hN hr
  by_cases hn : n < s.length
  · have h' := h
    unfold num2T at h'
    rw [at_some hn] at h'
    simp only at h'
    split at h'
    · rename_i hE
      split at h'
      · exact absurd h'.symm h0
      · rename_i htw
        have hNe := num3_nz h' h0
        have hlt : n < N := by omega
        unfold num2T
        rw [get_ext r hlt hN, at_some hn]
        simp only [hE, if_true]
        have hpos : 0 < (tw (s.drop (n + 1 + sgnN (s.drop (n + 1))))).length := List.length_pos_iff.2 htw
        have e1 : sgnN ((s.take N ++ r).drop (n + 1)) = sgnN (s.drop (n + 1)) := sgn_ext r (by omega) hN
        rw [e1]
        have e2 : tw ((s.take N ++ r).drop (n + 1 + sgnN (s.drop (n + 1)))) = tw (s.drop (n + 1 + sgnN (s.drop (n + 1)))) := by
          rw [drop_ext r (by omega) hN]
          exact tw_ext dg_bl hr _ _ (by show (tw _).length ≤ _; omega)
        rw [e2, if_neg htw, ← hNe]
        exact num3_ext hN hr
    · exact hend (num3_nz h' h0)
  · rw [num2_end hn] at h
    exact hend h.symm
theorem num1_ext {s r : List UInt8} {n N : Nat} (h : num1T s n = N) (h0 : N ≠ 0) (hN : N ≤ s.length) (hr : BlL r) : num1T (s.take N ++ r) n = N := by
  by_cases hn : n < s.length
  · have h' := h
    unfold num1T at h'
    rw [at_some hn] at h'
    simp only at h'
    split at h'
    · rename_i hE
      split at h'
      · exact absurd h'.symm h0
      · rename_i htw
        obtain ⟨h1, -⟩ := cutE_take h' h0
        have hlt : n < N := by omega
        unfold num1T
        rw [get_ext r hlt hN, at_some hn]
        simp only [hE, if_true]
        have e2 : tw ((s.take N ++ r).drop (n + 1)) = tw (s.drop (n + 1)) := by
          rw [drop_ext r (by omega) hN]
          exact tw_ext dg_bl hr _ _ (by show (tw _).length ≤ _; omega)
        rw [e2, if_neg htw]
        exact num2_ext h' h0 hN hr
    · rename_i hE
      obtain ⟨h1, -⟩ := cutE_take h' h0
      have h2 := num2_ext h' h0 hN hr
      unfold num1T
      by_cases hlt : n < N
      · rw [get_ext r hlt hN, at_some hn]
        simp only
        rw [if_neg hE]; exact h2
      · obtain rfl : N = n := by omega
        rcases get_end hN hr with h3 | ⟨x, h3, hx⟩
        · rw [h3]; exact h2
        · rw [h3]
          have := bl_all (p := fun c => c == 46) (by decide) (by decide) (by decide) (by decide) x hx
          simp only
          rw [if_neg (by simpa using this)]; exact h2
  · rw [num1_end hn] at h
    subst h
    have hN2 : n = s.length := by omega
    unfold num1T
    have h2 : num2T (s.take n ++ r) n = n := num2_ext (num2_end hn) h0 hN hr
    rcases get_end hN hr with h3 | ⟨x, h3, hx⟩
    · rw [h3]; exact h2
    · rw [h3]
      have := bl_all (p := fun c => c == 46) (by decide) (by decide) (by decide) (by decide) x hx
      simp only
      rw [if_neg (by simpa using this)]; exact h2
theorem num_ext {s r : List UInt8} {N : Nat} (h : numN s = N) (h0 : N ≠ 0) (hr : BlL r) : numN (s.take N ++ r) = N := by
  have hN : N ≤ s.length := by have := numN_le s; omega
  have h1 : num1T s (sgnN s + (tw (s.drop (sgnN s))).length) = N := h
  obtain ⟨h2, -⟩ := cutP_take h1 h0
  have e1 : sgnN (s.take N ++ r) = sgnN s := by
    have := sgn_ext (j := 0) r (by omega) hN
    simpa using this
  unfold numN
  rw [e1, drop_ext r (by omega) hN, show tw ((s.drop (sgnN s)).take (N - sgnN s) ++ r) = tw (s.drop (sgnN s)) from tw_ext dg_bl hr _ _ (by show (tw _).length ≤ _; omega)]
  exact num1_ext h1 h0 hN hr

/-! ### texts in quotes -/
theorem endQ_esc : ∀ (t : List UInt8) (i : Nat) (r : List UInt8), endQ false i (escQ t ++ 34 :: r) = some (i + (escQ t).length)
  | [], i, r => rfl
  | c :: t, i, r => by
    have e1 : escQ (c :: t) = escB c ++ escQ t := rfl
    have ih := endQ_esc t
    rw [e1, List.append_assoc, List.length_append]
    unfold escB
    split
    · have h : endQ false i ([92, c] ++ (escQ t ++ 34 :: r)) = endQ false (i + 1 + 1) (escQ t ++ 34 :: r) := rfl
      rw [h, ih]
      show some (i + 1 + 1 + (escQ t).length) = some (i + (2 + (escQ t).length))
      congr 1
      omega
    · rename_i hc
      have h : endQ false i ([c] ++ (escQ t ++ 34 :: r)) = endQ false (i + 1) (escQ t ++ 34 :: r) := by
        show (if c = 92 then _ else if c = 34 then _ else _) = _
        rw [if_neg (fun h => hc (.inl h)), if_neg (fun h => hc (.inr h))]; rfl
      rw [h, ih]
      show some (i + 1 + (escQ t).length) = some (i + (1 + (escQ t).length))
      congr 1
      omega
theorem unq_escQ : ∀ (t acc : List UInt8), unq acc (escQ t ++ [34]) = some (acc ++ t, [34])
  | [], acc => by rw [List.append_nil]; exact unq_quote acc []
  | c :: t, acc => by
    have e1 : escQ (c :: t) = escB c ++ escQ t := rfl
    have ih := unq_escQ t
    rw [e1, List.append_assoc]
    unfold escB
    split
    · rename_i hc
      have h : unq acc ([92, c] ++ (escQ t ++ [34])) = if c = 34 ∨ c = 92 then unq (acc ++ [c]) (escQ t ++ [34]) else none := unq_esc
      rw [h, if_pos hc.symm, ih, List.append_assoc]
      rfl
    · rename_i hc
      have h : unq acc ([c] ++ (escQ t ++ [34])) = unq (acc ++ [c]) (escQ t ++ [34]) := unq_plain (fun h => hc (.inr h)) (fun h => hc (.inl h))
      rw [h, ih, List.append_assoc]
      rfl
theorem unqL_quo {t : List UInt8} (h : mayN t = 0) : unqL (quoL t) = .good t := by
  have e : ∃ a u, escQ t ++ [34] = a :: u := by
    cases h : escQ t with
    | nil => exact ⟨34, [], rfl⟩
    | cons a u => exact ⟨a, u ++ [34], rfl⟩
  obtain ⟨a, u, e⟩ := e
  have h2 := unq_escQ t []
  unfold quoL
  rw [e] at h2 ⊢
  show unqEnd (unq [] (a :: u)) = _
  rw [h2]
  show unqFin t = _
  unfold unqFin
  rw [if_pos h]
theorem unq_may {x t : List UInt8} (h : unqL x = .good t) : mayN t = 0 := by
  unfold unqL at h
  split at h
  · cases h
  · cases h
  · split at h
    · unfold unqEnd at h
      split at h
      · cases h
      · cases h
      · split at h
        · unfold unqFin at h
          split at h
          · rename_i h2
            cases h; exact h2
          · cases h
        · cases h
    · cases h
theorem textR_may {s t : List UInt8} {k : Int} {n : Nat} (h : textR s = .good k t n) : mayN t = 0 := by
  unfold textR at h
  split at h
  · cases h
  · split at h
    · split at h <;> cases h
    · rename_i h2
      cases h; exact unq_may h2
theorem textR_quo {t : List UInt8} (h : mayN t = 0) (r : List UInt8) : textR (quoL t ++ r) = .good 3 t (quoL t).length := by
  have e0 : (quoL t ++ r).drop 1 = escQ t ++ 34 :: r := by unfold quoL; simp
  have hl : (quoL t).length = 1 + (escQ t).length + 1 := by unfold quoL; simp; omega
  unfold textR
  rw [e0, endQ_esc]
  simp only
  rw [show 1 + (escQ t).length + 1 = (quoL t).length from hl.symm, List.take_left, unqL_quo h]

/-! ### pieces -/
def pieceT (k : Int) (t : List UInt8) : List UInt8 := if k = 3 then quoL t else t
theorem tok_piece {s : List UInt8} (hne : s ≠ []) {k : Int} {t : List UInt8} {n : Nat} (h : tokR s = .good k t n) {r : List UInt8} (hr : BlL r) : tokR (pieceT k t ++ r) = .good k t (pieceT k t).length := by
  have hn := tok_n s hne h
  obtain ⟨c, u, rfl⟩ := List.exists_cons_of_ne_nil hne
  have hb := tok_bytes c u
  rw [hb] at h
  have hcons : ∀ m, 1 ≤ m → (c :: u).take m ++ r = c :: (u.take (m - 1) ++ r) := fun m hm => by
    rw [show m = (m - 1) + 1 by omega, List.take_succ_cons]; rfl
  split at h
  · rename_i h1
    cases h
    have hld : ldC c = true := by unfold ldC; rw [h1]; rfl
    have hpos : 1 ≤ nameN (c :: u) := by unfold nameN; rw [List.takeWhile_cons, hld]; simp
    have hnm : nameN ((c :: u).take (nameN (c :: u)) ++ r) = nameN (c :: u) := by
      have := tw_ext (p := ldC) (bl_all (by decide) (by decide) (by decide) (by decide)) hr (c :: u) (nameN (c :: u)) (Nat.le_refl _)
      show (List.takeWhile ldC _).length = _
      rw [this]; rfl
    have hl : ((c :: u).take (nameN (c :: u))).length = nameN (c :: u) := by rw [List.length_take]; exact Nat.min_eq_left hn
    show tokR ((c :: u).take (nameN (c :: u)) ++ r) = .good 1 _ ((c :: u).take (nameN (c :: u))).length
    have e := hcons _ hpos
    rw [hl, e, tok_bytes, if_pos h1, ← e, hnm, List.take_left' hl]
  · rename_i h1
    split at h
    · rename_i h2
      split at h
      · cases h
      · rename_i h3
        cases h
        have hl : ((c :: u).take (numN (c :: u))).length = numN (c :: u) := by rw [List.length_take]; exact Nat.min_eq_left hn
        have e := hcons (numN (c :: u)) (by omega)
        have hnm := num_ext (s := c :: u) rfl h3 hr
        have hsg : sgC c.toNat ((c :: u).take (numN (c :: u)) ++ r) = sgC c.toNat (c :: u) := by
          unfold sgC
          by_cases hlt : 1 < numN (c :: u)
          · rw [get_ext r hlt hn]
          · have hN1 : numN (c :: u) = 1 := by omega
            have hdg : dgU c.toNat = true := by
              rw [Bool.or_eq_true] at h2
              rcases h2 with h2 | h2
              · exact h2
              · exfalso
                have h5 := num_first c u (by rw [h2]; simp)
                have h6 : num1T (c :: u) (sgnN (c :: u) + (tw ((c :: u).drop (sgnN (c :: u)))).length) = 1 := hN1
                obtain ⟨h7, -⟩ := cutP_take h6 (by decide)
                have h8 := List.length_pos_iff.2 h5
                have h9 : sgnN (c :: u) = 1 := by
                  unfold sgC at h2
                  rw [Bool.and_eq_true, Bool.or_eq_true, beq_iff_eq, beq_iff_eq] at h2
                  show (if isSg c = true then 1 else 0) = 1
                  rw [if_pos ((isSg_iff c).2 (h2.1.imp (fun h => UInt8.toNat.inj h) (fun h => UInt8.toNat.inj h)))]
                omega
            have : (c.toNat == 43 || c.toNat == 45) = false := by
              rw [dgU_iff] at hdg
              rw [Bool.or_eq_false_iff, beq_eq_false_iff_ne, beq_eq_false_iff_ne]; omega
            rw [this]; rfl
        show tokR ((c :: u).take (numN (c :: u)) ++ r) = .good 2 _ ((c :: u).take (numN (c :: u))).length
        rw [hl]
        rw [e] at hsg hnm ⊢
        rw [tok_bytes, if_neg h1, hsg, if_pos h2, hnm, if_neg h3, ← e, List.take_left' hl]
    · rename_i h2
      split at h
      · rename_i h3
        have hk : k = 3 := by
          unfold textR at h
          split at h
          · cases h
          · split at h
            · split at h <;> cases h
            · cases h; rfl
        have hm := textR_may h
        subst hk
        show tokR (quoL t ++ r) = .good 3 t (quoL t).length
        have e : quoL t ++ r = 34 :: ((escQ t ++ [34]) ++ r) := rfl
        rw [e, tok_bytes, if_neg (by decide), if_neg (by simp [sgC, dgU]), if_pos rfl, ← e]
        exact textR_quo hm r
      · rename_i h3
        have hc2 : dgU c.toNat = false := by rw [Bool.not_eq_true, Bool.or_eq_false_iff] at h2; exact h2.1
        split at h
        · rename_i h4
          cases h
          show tokR ([c] ++ r) = .good 4 [c] 1
          have hs2 : sgC c.toNat (c :: r) = false := by
            unfold sgC
            have : (c.toNat == 43 || c.toNat == 45) = false := by
              rw [Bool.or_eq_false_iff, beq_eq_false_iff_ne, beq_eq_false_iff_ne]
              constructor <;> intro h5 <;> rw [h5] at h4 <;> exact absurd h4 (by decide)
            rw [this]; rfl
          rw [show [c] ++ r = c :: r from rfl, tok_bytes, if_neg h1, hc2, hs2, if_neg (by decide), if_neg h3, if_pos h4]
        · rename_i h4
          split at h
          · rename_i h5
            cases h
            have hl3 := ordB_len h5
            have hl : ((c :: u).take 3).length = 3 := by rw [List.length_take]; omega
            have e := hcons 3 (by decide)
            have ho : ordB ((c :: u).take 3 ++ r) = true := by
              unfold ordB at h5 ⊢
              rw [List.take_left' hl]; exact h5
            have hc64 : c = 64 := by
              unfold ordB at h5
              simp only [Bool.or_eq_true, beq_iff_eq, List.take_succ_cons] at h5
              rcases h5 with ((h5 | h5) | h5) | h5 <;> exact (List.cons.inj h5).1
            show tokR ((c :: u).take 3 ++ r) = .good 4 _ ((c :: u).take 3).length
            rw [hl]
            have hs2 : sgC c.toNat ((c :: u).take 3 ++ r) = false := by rw [hc64]; rfl
            rw [e] at ho hs2 ⊢
            rw [tok_bytes, if_neg h1, hc2, hs2, if_neg (by decide), if_neg h3, if_neg h4, if_pos ho, ← e, List.take_left' hl]
          · cases h
/-- a token's piece begins with what is no blank -/
theorem tok_nb {c : UInt8} {u : List UInt8} {k : Int} {t : List UInt8} {n : Nat} (h : tokR (c :: u) = .good k t n) : blankU c.toNat = false := by
  cases hb : blankU c.toNat
  · rfl
  · exfalso
    rw [tok_bytes] at h
    rcases bl_of hb with rfl | rfl | rfl | rfl
    all_goals
      rw [if_neg (by decide), if_neg (by simp [sgC, dgU]), if_neg (by decide), if_neg (by decide), if_neg (by simp [ordB])] at h
      cases h
end Go.Proofs.YtmifjfohanegiaaGreatDoor

namespace Go.Proofs.YtmifjfohanegiaaGreatDoor
set_option linter.unusedVariables false
open Go.RowKit Go.Shelf

/-! ### what is fine -/
theorem decN_trunc {n b0 b1 b2 b3 c1 c2 c3 : Nat} (hn : 1 ≤ n) (e1 : 2 ≤ (Lib.decodeN n b0 b1 b2 b3).2 → c1 = b1) (e2 : 3 ≤ (Lib.decodeN n b0 b1 b2 b3).2 → c2 = b2) (e3 : 4 ≤ (Lib.decodeN n b0 b1 b2 b3).2 → c3 = b3)
    (hill : ¬ ((Lib.decodeN n b0 b1 b2 b3).1 = 65533 ∧ (Lib.decodeN n b0 b1 b2 b3).2 = 1)) : Lib.decodeN (Lib.decodeN n b0 b1 b2 b3).2 b0 c1 c2 c3 = Lib.decodeN n b0 b1 b2 b3 := by
  by_cases h1 : b0 < 128
  · have e : ∀ m x y z, Lib.decodeN m b0 x y z = (b0, 1) := fun m x y z => by unfold Lib.decodeN; rw [if_pos h1]
    rw [e, e]
  obtain ⟨R, k, e⟩ : ∃ R k, Lib.decodeN n b0 b1 b2 b3 = (R, k) := ⟨_, _, rfl⟩
  rw [e] at e1 e2 e3 hill ⊢
  simp only at e1 e2 e3 hill ⊢
  unfold Lib.decodeN at e ⊢
  rw [if_neg h1] at e ⊢
  split at e
  · rename_i h2
    split at e
    · rename_i h3
      cases e
      obtain rfl := e1 (by decide)
      rw [if_pos ⟨h2.1, by decide, h2.2.2⟩, if_pos h3]
    · cases e; exact absurd ⟨rfl, rfl⟩ hill
  rename_i h2
  split at e
  · rename_i h3
    split at e
    · rename_i h4
      cases e
      obtain rfl := e1 (by decide)
      obtain rfl := e2 (by decide)
      rw [if_neg (by omega), if_pos (by omega), if_pos h4]
    · cases e; exact absurd ⟨rfl, rfl⟩ hill
  rename_i h3
  split at e
  · rename_i h4
    split at e
    · rename_i h5
      cases e
      obtain rfl := e1 (by decide)
      obtain rfl := e2 (by decide)
      obtain rfl := e3 (by decide)
      rw [if_neg (by omega), if_neg (by omega), if_pos (by omega), if_pos h5]
    · cases e; exact absurd ⟨rfl, rfl⟩ hill
  · cases e; exact absurd ⟨rfl, rfl⟩ hill
theorem take_ne {s : List UInt8} {n : Nat} (h1 : 1 ≤ n) (h2 : n ≤ s.length) : s.take n ≠ [] := by
  intro h0
  have h := congrArg List.length h0
  rw [List.length_take, Nat.min_eq_left h2] at h
  have h3 : n = 0 := h
  omega
theorem dec_self (s : List UInt8) (hne : s ≠ []) (hill : illU (decL s).1 (decL s).2 = false) : decL (s.take (decL s).2) = decL s := by
  have hpos : 0 < s.length := List.length_pos_iff.2 hne
  have hw := dec_w s
  have hw2 := hw.2.2 hne
  have hi : ¬ ((decL s).1 = 65533 ∧ (decL s).2 = 1) := by
    rintro ⟨h1, h2⟩; unfold illU at hill; rw [h1, h2] at hill; exact absurd hill (by decide)
  have hg : ∀ j, j < (decL s).2 → (s.take (decL s).2).getD j 0 = s.getD j 0 := fun j hj => by
    rw [List.getD_eq_getElem?_getD, List.getElem?_take, if_pos hj, List.getD_eq_getElem?_getD]
  have hl : (s.take (decL s).2).length = (decL s).2 := by rw [List.length_take]; omega
  have key : decL (s.take (decL s).2) = Lib.decodeN (decL s).2 (s.getD 0 0).toNat ((s.take (decL s).2).getD 1 0).toNat ((s.take (decL s).2).getD 2 0).toNat ((s.take (decL s).2).getD 3 0).toNat := by
    show Lib.decodeN _ _ _ _ _ = _
    rw [hl, hg 0 (by omega)]
  rw [key]
  exact decN_trunc hpos (fun h => by rw [hg 1 h]) (fun h => by rw [hg 2 h]) (fun h => by rw [hg 3 h]) hi
/-- the head of a fine text, up to where a unit begins, is fine -/
theorem Bnd.fine {s : List UInt8} {p q : Int × Int} {n : Nat} (h : Bnd s p n q) : fineF s.length s → fineF n (s.take n) ∧ fineF (s.length - n) (s.drop n) := by
  induction h with
  | zero s p => intro hf; exact ⟨fine_nil _, by simpa using hf⟩
  | step s p n q hne h ih =>
    intro hf
    have hw := dec_w s
    have hw2 := hw.2.2 hne
    have hf' := hf
    rw [show s.length = (s.length - 1) + 1 by have := List.length_pos_iff.2 hne; omega, fine_cons hne] at hf'
    have hd : fineF (s.drop (decL s).2).length (s.drop (decL s).2) := fine_fuel _ _ _ (by rw [List.length_drop]; omega) (Nat.le_refl _) hf'.2
    obtain ⟨i1, i2⟩ := ih hd
    have hn := h.le
    rw [List.length_drop] at hn i2
    constructor
    · have e : s.take ((decL s).2 + n) = s.take (decL s).2 ++ (s.drop (decL s).2).take n := by rw [List.take_add]
      have hu : fineF (decL s).2 (s.take (decL s).2) := by
        have hne2 : s.take (decL s).2 ≠ [] := take_ne hw.1 hw2
        rw [show (decL s).2 = ((decL s).2 - 1) + 1 by omega, fine_cons (by rw [show (decL s).2 - 1 + 1 = (decL s).2 by omega]; exact hne2)]
        rw [show (decL s).2 - 1 + 1 = (decL s).2 by omega, dec_self s hne (bad_ill hf'.1)]
        exact ⟨hf'.1, by rw [List.drop_take, Nat.sub_self, List.take_zero]; exact fine_nil _⟩
      rw [e]
      refine fine_app _ _ _ _ (by rw [List.length_take]; omega) (by rw [List.length_append, List.length_take, List.length_take]; omega) hu ?_
      exact fine_fuel _ _ _ (by rw [List.length_take]; omega) (Nat.le_refl _) i1
    · rw [← List.drop_drop]
      rw [show s.length - ((decL s).2 + n) = s.length - (decL s).2 - n by omega]
      exact i2
theorem fine_one (c : UInt8) (h : c.toNat < 128) (hb : badU c.toNat 1 = false) : fineF 1 [c] := by
  rw [fine_cons (List.cons_ne_nil _ _), dec_ascii c [] h]
  exact ⟨hb, fine_nil _⟩
/-- fine, and no control at all -/
def plnF (s : List UInt8) : Prop := ∀ u ∈ unitsF s.length s (1, 1), illU u.rune u.wide = false ∧ ctlU u.rune = false
theorem may_pln {t : List UInt8} (h : mayN t = 0) : plnF t := by
  unfold mayN at h
  split at h
  · cases h
  · split at h
    · cases h
    · rename_i h2
      rw [Bool.not_eq_true, Bool.or_eq_false_iff] at h2
      intro u hu
      have h3 := List.any_eq_false.1 h2.1 u hu
      have h4 := List.any_eq_false.1 h2.2 u hu
      exact ⟨by simpa using h3, by simpa using h4⟩
theorem pln_fine {t : List UInt8} (h : plnF t) : fineF t.length t := fun u hu => by
  unfold badU
  rw [(h u hu).1, (h u hu).2]; rfl
theorem escQ_high : ∀ (l : List UInt8), (∀ c ∈ l, 128 ≤ c.toNat) → escQ l = l
  | [], _ => rfl
  | c :: t, h => by
    have e1 : escQ (c :: t) = escB c ++ escQ t := rfl
    have hc := h c (List.mem_cons_self ..)
    rw [e1, escQ_high t (fun d hd => h d (List.mem_cons_of_mem _ hd))]
    unfold escB
    rw [if_neg (by rintro (rfl | rfl) <;> exact absurd hc (by decide))]
    rfl
theorem esc_fine : ∀ (f : Nat) (t : List UInt8), t.length ≤ f → fineF f t → fineF (escQ t).length (escQ t)
  | 0, t, hf, _ => by
    have : t = [] := List.length_eq_zero_iff.1 (by omega)
    subst this; exact fine_nil _
  | f + 1, t, hf, h => by
    by_cases h0 : t = []
    · subst h0; exact fine_nil _
    rw [fine_cons h0] at h
    have hw := dec_w t
    have hw2 := hw.2.2 h0
    have ih := esc_fine f (t.drop (decL t).2) (drop_short hf) h.2
    have hsp : t = t.take (decL t).2 ++ t.drop (decL t).2 := (List.take_append_drop _ _).symm
    have he : escQ t = escQ (t.take (decL t).2) ++ escQ (t.drop (decL t).2) := by rw [← escQ_app, List.take_append_drop]
    rw [he]
    refine fine_app _ _ _ _ (Nat.le_refl _) (Nat.le_refl _) ?_ ih
    by_cases hr : (decL t).1 < 128
    · obtain ⟨a, u, rfl⟩ := List.exists_cons_of_ne_nil h0
      obtain ⟨e, h1⟩ := dec_low a u hr
      rw [e] at h ⊢
      show fineF (escQ [a]).length (escQ [a])
      have e2 : escQ [a] = escB a := by show escB a ++ [] = _; rw [List.append_nil]
      rw [e2]
      unfold escB
      split
      · exact fine_app 1 [92] [a] 2 (Nat.le_refl _) (Nat.le_refl _) (fine_one 92 (by decide) (by decide)) (fine_one a h1 h.1)
      · exact fine_one a h1 h.1
    · rw [escQ_high _ (dec_conts t (by omega) h0)]
      have hne2 : t.take (decL t).2 ≠ [] := take_ne hw.1 hw2
      have hl : (t.take (decL t).2).length = ((decL t).2 - 1) + 1 := by rw [List.length_take]; omega
      rw [hl, fine_cons hne2, dec_self t h0 (bad_ill h.1)]
      exact ⟨h.1, by rw [List.drop_take, Nat.sub_self, List.take_zero]; exact fine_nil _⟩
theorem quo_fine {t : List UInt8} (h : mayN t = 0) : fineF (quoL t).length (quoL t) := by
  have h1 := esc_fine _ _ (Nat.le_refl _) (pln_fine (may_pln h))
  have h2 : fineF (escQ t ++ [34]).length (escQ t ++ [34]) := fine_app _ _ _ _ (Nat.le_refl _) (Nat.le_refl _) h1 (fine_one 34 (by decide) (by decide))
  exact fine_app 1 [34] (escQ t ++ [34]) _ (Nat.le_refl _) (by unfold quoL; simp) (fine_one 34 (by decide) (by decide)) h2
theorem bl_fine : ∀ (b : List UInt8), (∀ c ∈ b, blankU c.toNat = true) → fineF b.length b
  | [], _ => fine_nil _
  | c :: t, h => by
    have hc := h c (List.mem_cons_self ..)
    refine fine_app 1 [c] t _ (Nat.le_refl _) (Nat.le_refl _) (fine_one c (blankU_low hc) ?_) (bl_fine t fun d hd => h d (List.mem_cons_of_mem _ hd))
    unfold badU
    rw [hc, Bool.not_true, Bool.and_false, Bool.or_false]
    unfold illU
    rw [Bool.and_eq_false_iff, beq_eq_false_iff_ne]
    have := blankU_low hc
    exact .inl (by omega)

/-! ### written anew -/
def joinB : List (List UInt8) → List TokD → List UInt8
  | b :: bs, t :: ts => b ++ (pieceT t.kind t.text ++ joinB bs ts)
  | _, _ => []
def bls (b : List UInt8) : Prop := ∀ c ∈ b, blankU c.toNat = true
theorem RefI.blanks {s : List UInt8} {V : ScanR} : ∀ (b : List UInt8) (i : Nat) (acc : List TokD) (q : Int × Int) (r : List UInt8), RefI s V i acc q → s.drop i = b ++ r → bls b → ∃ q', RefI s V (i + b.length) acc q'
  | [], i, acc, q, r, h, _, _ => ⟨q, h⟩
  | c :: b, i, acc, q, r, h, hd, hb => by
    have hlt : i < s.length := by
      rcases Nat.lt_or_ge i s.length with h1 | h1
      · exact h1
      · rw [List.drop_eq_nil_of_le h1] at hd; cases hd
    have h2 := List.drop_eq_getElem_cons hlt
    rw [hd] at h2
    obtain ⟨e1, e2⟩ := List.cons.inj h2
    obtain ⟨q', h3⟩ := h.blank hlt (by rw [← e1]; exact hb c (List.mem_cons_self ..))
    obtain ⟨q2, h4⟩ := RefI.blanks b (i + 1) acc q' r h3 e2.symm (fun d hd => hb d (List.mem_cons_of_mem _ hd))
    exact ⟨q2, by rw [List.length_cons, show i + (b.length + 1) = i + 1 + b.length by omega]; exact h4⟩
def KT (l : List TokD) : List (Int × List UInt8) := l.map fun t => (t.kind, t.text)
theorem chain_join {s : List UInt8} {n : Nat} {l : List TokD} (hc : Chain s n l) : ∀ (bs : List (List UInt8)), bs.length = l.length → (∀ b ∈ bs, bls b) → (∀ b ∈ bs.tail, b ≠ []) →
    ∀ (O : List UInt8) (V : ScanR) (i : Nat) (acc : List TokD) (q : Int × Int), O.drop i = joinB bs l → RefI O V i acc q → ∃ l', V = .good (acc ++ l') ∧ KT l' = KT l := by
  induction hc with
  | fin n q0 hn hb =>
    intro bs hl hbl hne O V i acc q hd hI
    obtain ⟨b, rfl⟩ : ∃ b, bs = [b] := by
      rcases bs with _ | ⟨b, _ | ⟨b', t⟩⟩
      · simp at hl
      · exact ⟨b, rfl⟩
      · simp at hl
    have hd2 : O.drop i = b ++ [] := by
      rw [hd]
      show b ++ (pieceT 0 [] ++ []) = _
      rfl
    obtain ⟨q', h2⟩ := RefI.blanks b i acc q [] hI hd2 (hbl b (List.mem_cons_self ..))
    have hlen := congrArg List.length hd2
    rw [List.length_drop, List.append_nil] at hlen
    have hk := hI.hk
    exact ⟨[endTok q'], h2.fin (by omega), rfl⟩
  | tok n k m t r hn hi hb ht hm hr ih =>
    intro bs hl hbl hne O V i acc q hd hI
    rcases bs with _ | ⟨b, bs⟩
    · simp at hl
    have hd2 : O.drop i = b ++ (pieceT t.kind t.text ++ joinB bs r) := hd
    obtain ⟨q', h2⟩ := RefI.blanks b i acc q _ hI hd2 (hbl b (List.mem_cons_self ..))
    have hd3 : O.drop (i + b.length) = pieceT t.kind t.text ++ joinB bs r := by
      rw [← List.drop_drop, hd2, List.drop_left]
    have hbl2 : BlL (joinB bs r) := by
      rcases bs with _ | ⟨b2, bs⟩
      · exact .inl rfl
      · rcases r with _ | ⟨t2, r⟩
        · exact .inl rfl
        · have h5 := hne b2 (List.mem_cons_self ..)
          obtain ⟨x, y, rfl⟩ := List.exists_cons_of_ne_nil h5
          exact .inr ⟨x, _, rfl, hbl (x :: y) (List.mem_cons_of_mem _ (List.mem_cons_self ..)) x (List.mem_cons_self ..)⟩
    have hne0 : s.drop k ≠ [] := by intro h0; have := congrArg List.length h0; rw [List.length_drop] at this; simp at this; omega
    have htk := tok_piece hne0 ht hbl2
    rw [← hd3] at htk
    have hlt : i + b.length < O.length := by
      rcases Nat.lt_or_ge (i + b.length) O.length with h1 | h1
      · exact h1
      · exfalso
        rw [List.drop_eq_nil_of_le h1] at htk
        have : tokR [] = .bad 7 := by kernel_rfl
        rw [this] at htk; cases htk
    have hdc := List.drop_eq_getElem_cons hlt
    have hnb : blankU O[i + b.length].toNat = false := by
      rw [hdc] at htk
      exact tok_nb htk
    obtain ⟨h1, q2, h3⟩ := h2.good hlt hnb htk
    have hd4 : O.drop (i + b.length + (pieceT t.kind t.text).length) = joinB bs r := by
      rw [← List.drop_drop, hd3, List.drop_left]
    obtain ⟨l', h4, h5⟩ := ih bs (by simpa using hl) (fun x hx => hbl x (List.mem_cons_of_mem _ hx)) (fun x hx => hne x (List.mem_of_mem_tail hx)) O V _ _ _ hd4 h3
    refine ⟨⟨t.kind, t.text, q'.1, q'.2⟩ :: l', by rw [h4, List.append_assoc]; rfl, ?_⟩
    show (t.kind, t.text) :: KT l' = (t.kind, t.text) :: KT r
    rw [h5]
/-- the end of a token is where a unit begins -/
theorem chain_fine {s : List UInt8} (hs : fineF s.length s) {n : Nat} {l : List TokD} (hc : Chain s n l) : ∀ (bs : List (List UInt8)), bs.length = l.length → (∀ b ∈ bs, bls b) → fineF (joinB bs l).length (joinB bs l) := by
  induction hc with
  | fin n q0 hn hb =>
    intro bs hl hbl
    obtain ⟨b, rfl⟩ : ∃ b, bs = [b] := by
      rcases bs with _ | ⟨b, _ | ⟨b', t⟩⟩
      · simp at hl
      · exact ⟨b, rfl⟩
      · simp at hl
    have e : joinB [b] [endTok q0] = b := by show b ++ (pieceT 0 [] ++ []) = b; unfold pieceT; simp
    rw [e]
    exact bl_fine b (hbl b (List.mem_cons_self ..))
  | tok n k m t r hn hi hb ht hm hr ih =>
    intro bs hl hbl
    rcases bs with _ | ⟨b, bs⟩
    · simp at hl
    have ih2 := ih bs (by simpa using hl) (fun x hx => hbl x (List.mem_cons_of_mem _ hx))
    have hb2 := bl_fine b (hbl b (List.mem_cons_self ..))
    have hne0 : s.drop k ≠ [] := by intro h0; have := congrArg List.length h0; rw [List.length_drop] at this; simp at this; omega
    have hp : fineF (pieceT t.kind t.text).length (pieceT t.kind t.text) := by
      by_cases h3 : t.kind = 3
      · have hmay : mayN t.text = 0 := by
          obtain ⟨c, u, hcu⟩ := List.exists_cons_of_ne_nil hne0
          rw [h3, hcu, tok_bytes] at ht
          split at ht
          · cases ht
          · split at ht
            · split at ht <;> cases ht
            · split at ht
              · exact textR_may ht
              · split at ht
                · cases ht
                · split at ht <;> cases ht
        unfold pieceT
        rw [if_pos h3]
        exact quo_fine hmay
      · unfold pieceT
        rw [if_neg h3]
        have htx := tok_text ht h3
        have hdf := (hb.fine hs).2
        rw [← List.length_drop] at hdf
        obtain ⟨c, u, hcu⟩ := List.exists_cons_of_ne_nil hne0
        have hl := ht
        rw [hcu] at hl
        obtain ⟨h1, d, hd, hd2⟩ := tok_last c u hl
        rw [← hcu] at hd
        obtain ⟨q', hq⟩ := bnd_low _ (s.drop k) (1, 1) m d (Nat.le_refl _) h1 hd hd2
        have h5 := (hq.fine hdf).1
        rw [← htx] at h5
        have hml := tok_n _ hne0 ht
        exact fine_fuel _ _ _ (by rw [htx, List.length_take]; omega) (Nat.le_refl _) h5
    refine fine_app _ _ _ _ (Nat.le_refl _) (Nat.le_refl _) hb2 ?_
    exact fine_app _ _ _ _ (Nat.le_refl _) (Nat.le_refl _) hp ih2
theorem scanL_good' {s : List UInt8} {l : List TokD} (h : scanL s = .good l) : fineF s.length s := by
  rw [← check_fine]
  unfold scanL at h
  split at h
  · cases h
  · split at h
    · assumption
    · cases h
theorem blanks_plain {s : List UInt8} {l : List TokD} (h : scanL s = .good l) (bs : List (List UInt8)) (hl : bs.length = l.length) (hbl : ∀ b ∈ bs, bls b) (hne : ∀ b ∈ bs.tail, b ≠ []) (hlen : (joinB bs l).length ≤ 1048576) :
    ∃ l', scanL (joinB bs l) = .good l' ∧ KT l' = KT l := by
  have hf := chain_fine (scanL_good' h) (scanL_chain h) bs hl hbl
  have hc := (check_fine _).2 hf
  have e : scanL (joinB bs l) = scanF (joinB bs l).length (joinB bs l) 0 (1, 1) [] := by
    unfold scanL
    rw [if_neg (by omega), hc]
  obtain ⟨l', h2, h3⟩ := chain_join (scanL_chain h) bs hl hbl hne (joinB bs l) (scanL (joinB bs l)) 0 [] (1, 1) rfl ⟨Nat.zero_le _, .zero _ _, e⟩
  exact ⟨l', by simpa using h2, h3⟩
end Go.Proofs.YtmifjfohanegiaaGreatDoor

namespace Go.Proofs.YtmifjfohanegiaaGreatDoor
set_option linter.unusedVariables false
open Go.RowKit

set_option maxHeartbeats 1000000 in
theorem pick_any (n : Int) (hn : -9223372036854775808 ≤ n ∧ n ≤ 9223372036854775807) (m : Nat) (hm : 0 < m) (hm2 : m < 9223372036854775807) (w : World) :
    Calls Tryz.prog 22 #[.int .i64 n, .int .i64 m] w fun e w' => ∃ k : Nat, k < m ∧ e = .returned (.int .i64 k) ∧ Below w.heap.size w w' := by
  have h1 : n.tmod (m : Int) < m := Int.tmod_lt_of_pos n (by omega)
  have h2 : -(m : Int) < n.tmod (m : Int) := by
    have := Int.tmod_lt_of_pos (-n) (show (0 : Int) < m by omega)
    rw [Int.neg_tmod] at this
    omega
  obtain ⟨r, hr⟩ : ∃ r, n.tmod (m : Int) = r := ⟨_, rfl⟩
  rw [hr] at h1 h2
  go_enter Tryz.func22, Tryz.ntmps22
  by_cases hneg : r < 0
  · go_wp2
    go_ret
    obtain ⟨k, hk⟩ := Int.eq_ofNat_of_zero_le (show 0 ≤ r + (m : Int) by omega)
    exact ⟨k, by omega, by rw [hk]; rfl, Below.refl _ _⟩
  · go_wp2
    go_ret
    obtain ⟨k, hk⟩ := Int.eq_ofNat_of_zero_le (show 0 ≤ r by omega)
    exact ⟨k, by omega, by rw [hk]; rfl, Below.refl _ _⟩


def pickN (n : Int) (m : Nat) : Nat := if n.tmod (m : Int) < 0 then (n.tmod (m : Int) + m).toNat else (n.tmod (m : Int)).toNat
theorem pickN_lt (n : Int) (m : Nat) (hm : 0 < m) : pickN n m < m := by
  have h1 : n.tmod (m : Int) < m := Int.tmod_lt_of_pos n (by omega)
  unfold pickN
  split <;> omega

set_option maxHeartbeats 1000000 in
theorem pick_fn (n : Int) (hn : -9223372036854775808 ≤ n ∧ n ≤ 9223372036854775807) (m : Nat) (hm : 0 < m) (hm2 : m < 9223372036854775807) (w : World) :
    Calls Tryz.prog 22 #[.int .i64 n, .int .i64 m] w fun e w' => e = .returned (.int .i64 (pickN n m : Nat)) ∧ w' = w := by
  have h1 : n.tmod (m : Int) < m := Int.tmod_lt_of_pos n (by omega)
  have h2 : -(m : Int) < n.tmod (m : Int) := by
    have := Int.tmod_lt_of_pos (-n) (show (0 : Int) < m by omega)
    rw [Int.neg_tmod] at this
    omega
  unfold pickN
  obtain ⟨r, hr⟩ : ∃ r, n.tmod (m : Int) = r := ⟨_, rfl⟩
  rw [hr] at h1 h2 ⊢
  by_cases hneg : r < 0
  · have hk := Int.toNat_of_nonneg (show 0 ≤ r + (m : Int) by omega)
    rw [if_pos hneg]
    generalize (r + (m : Int)).toNat = k at *
    have HK := Lib.hid hk
    clear hk
    go_enter Tryz.func22, Tryz.ntmps22
    go_wp2
    go_ret
    exact ⟨by rw [HK.out]; rfl, rfl⟩
  · have hk := Int.toNat_of_nonneg (show 0 ≤ r by omega)
    rw [if_neg hneg]
    generalize r.toNat = k at *
    have HK := Lib.hid hk
    clear hk
    go_enter Tryz.func22, Tryz.ntmps22
    go_wp2
    go_ret
    exact ⟨by rw [HK.out]; rfl, rfl⟩
end Go.Proofs.YtmifjfohanegiaaGreatDoor
