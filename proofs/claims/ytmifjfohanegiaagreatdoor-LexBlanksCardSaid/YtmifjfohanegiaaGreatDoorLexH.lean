/-
  Plain: two texts, line behind line: what a scan of both answers.
-/
import Derived.Test.YtmifjfohanegiaaGreatDoorLexF
namespace Go.Proofs.YtmifjfohanegiaaGreatDoor
set_option linter.unusedVariables false
open Go.RowKit Go.Shelf

theorem tw_app {p : UInt8 → Bool} (x : UInt8) (m : List UInt8) (hx : p x = false) : ∀ s : List UInt8, (s ++ x :: m).takeWhile p = s.takeWhile p
  | [] => by rw [List.nil_append, List.takeWhile_cons, hx]; rfl
  | c :: t => by
    rw [List.cons_append, List.takeWhile_cons, List.takeWhile_cons, tw_app x m hx t]
theorem get_app_lt {s m : List UInt8} {n : Nat} (h : n < s.length) : (s ++ m)[n]? = s[n]? := List.getElem?_append_left h
theorem get_app_eq (s : List UInt8) (x : UInt8) (m : List UInt8) : (s ++ x :: m)[s.length]? = some x := by simp
theorem drop_app {s m : List UInt8} {n : Nat} (h : n ≤ s.length) : (s ++ m).drop n = s.drop n ++ m := List.drop_append_of_le_length h
theorem sgn_app (s m : List UInt8) : sgnN (s ++ 10 :: m) = sgnN s := by
  cases s with
  | nil => rfl
  | cons c t => rfl
theorem twd_app (s m : List UInt8) : tw (s ++ 10 :: m) = tw s := by unfold tw; exact tw_app 10 m (by decide) s
theorem num3_app {s : List UInt8} (m : List UInt8) {n : Nat} (h : n ≤ s.length) : num3T (s ++ 10 :: m) n = num3T s n := by
  rcases Nat.lt_or_ge n s.length with h1 | h1
  · unfold num3T; rw [get_app_lt h1]
  · obtain rfl : n = s.length := by omega
    rw [num3_end (Nat.lt_irrefl _)]
    unfold num3T
    rw [get_app_eq]
    rfl
theorem num2_app {s : List UInt8} (m : List UInt8) {n : Nat} (h : n ≤ s.length) : num2T (s ++ 10 :: m) n = num2T s n := by
  rcases Nat.lt_or_ge n s.length with h1 | h1
  · have hsg := sgnN_le (s.drop (n + 1))
    rw [List.length_drop] at hsg
    unfold num2T
    rw [get_app_lt h1, drop_app (by omega : n + 1 ≤ s.length), sgn_app, drop_app (by omega : n + 1 + sgnN (s.drop (n + 1)) ≤ s.length), twd_app]
    have ht := tw_lenA (s.drop (n + 1 + sgnN (s.drop (n + 1))))
    rw [List.length_drop] at ht
    rw [num3_app m (by omega), num3_app m h]
  · obtain rfl : n = s.length := by omega
    rw [num2_end (Nat.lt_irrefl _)]
    unfold num2T
    rw [get_app_eq]
    show num3T _ _ = _
    rw [num3_app m (Nat.le_refl _), num3_end (Nat.lt_irrefl _)]
theorem num1_app {s : List UInt8} (m : List UInt8) {n : Nat} (h : n ≤ s.length) : num1T (s ++ 10 :: m) n = num1T s n := by
  rcases Nat.lt_or_ge n s.length with h1 | h1
  · unfold num1T
    rw [get_app_lt h1, drop_app (by omega : n + 1 ≤ s.length), twd_app]
    have ht := tw_lenA (s.drop (n + 1))
    rw [List.length_drop] at ht
    rw [num2_app m (by omega), num2_app m h]
  · obtain rfl : n = s.length := by omega
    rw [num1_end (Nat.lt_irrefl _)]
    unfold num1T
    rw [get_app_eq]
    show num2T _ _ = _
    rw [num2_app m (Nat.le_refl _), num2_end (Nat.lt_irrefl _)]
theorem num_app (s m : List UInt8) : numN (s ++ 10 :: m) = numN s := by
  have hsg := sgnN_le s
  have ht := tw_lenA (s.drop (sgnN s))
  rw [List.length_drop] at ht
  unfold numN
  rw [sgn_app, drop_app (by omega : sgnN s ≤ s.length), twd_app, num1_app m (by omega)]
theorem name_app (s m : List UInt8) : nameN (s ++ 10 :: m) = nameN s := by unfold nameN; rw [tw_app 10 m (by decide) s]
theorem endQ_app : ∀ (l : List UInt8) (b : Bool) (i k : Nat) (m : List UInt8), endQ b i l = some k → endQ b i (l ++ m) = some k
  | [], b, i, k, m, h => by rw [endQ_nil] at h; cases h
  | c :: t, true, i, k, m, h => endQ_app t false (i + 1) k m h
  | c :: t, false, i, k, m, h => by
    have h1 : (if c = 92 then endQ true (i + 1) t else if c = 34 then some i else endQ false (i + 1) t) = some k := h
    show (if c = 92 then endQ true (i + 1) (t ++ m) else if c = 34 then some i else endQ false (i + 1) (t ++ m)) = some k
    split
    · rename_i hc; rw [if_pos hc] at h1; exact endQ_app t true (i + 1) k m h1
    · rename_i hc
      rw [if_neg hc] at h1
      split
      · rename_i h2; rw [if_pos h2] at h1; exact h1
      · rename_i h2; rw [if_neg h2] at h1; exact endQ_app t false (i + 1) k m h1
theorem decN_app {n n' b0 b1 b2 b3 c1 c2 c3 : Nat} (hn : 1 ≤ n) (hnn : n ≤ n') (e1 : 2 ≤ n → c1 = b1) (e2 : 3 ≤ n → c2 = b2) (e3 : 4 ≤ n → c3 = b3)
    (hill : ¬ ((Lib.decodeN n b0 b1 b2 b3).1 = 65533 ∧ (Lib.decodeN n b0 b1 b2 b3).2 = 1)) : Lib.decodeN n' b0 c1 c2 c3 = Lib.decodeN n b0 b1 b2 b3 := by
  revert hill
  unfold Lib.decodeN
  split
  · intro _; rfl
  split
  · rename_i h6
    split
    · rename_i h; intro _
      obtain rfl := e1 (by omega)
      rw [if_pos (by omega), if_pos h]
    · intro h; exact absurd ⟨rfl, rfl⟩ h
  split
  · rename_i h6
    split
    · rename_i h; intro _
      obtain rfl := e1 (by omega)
      obtain rfl := e2 (by omega)
      rw [if_neg (by omega), if_pos (by omega), if_pos h]
    · intro h; exact absurd ⟨rfl, rfl⟩ h
  split
  · rename_i h6
    split
    · rename_i h; intro _
      obtain rfl := e1 (by omega)
      obtain rfl := e2 (by omega)
      obtain rfl := e3 (by omega)
      rw [if_neg (by omega), if_neg (by omega), if_pos (by omega), if_pos h]
    · intro h; exact absurd ⟨rfl, rfl⟩ h
  · intro h; exact absurd ⟨rfl, rfl⟩ h
theorem dec_app (s m : List UInt8) (hne : s ≠ []) (hill : illU (decL s).1 (decL s).2 = false) : decL (s ++ m) = decL s := by
  have hpos : 0 < s.length := List.length_pos_iff.2 hne
  have hg : ∀ j, j < s.length → (s ++ m).getD j 0 = s.getD j 0 := fun j hj => by rw [List.getD_eq_getElem?_getD, List.getElem?_append_left hj, List.getD_eq_getElem?_getD]
  have hi : ¬ ((decL s).1 = 65533 ∧ (decL s).2 = 1) := by
    rintro ⟨h1, h2⟩; unfold illU at hill; rw [h1, h2] at hill; exact absurd hill (by decide)
  unfold decL at hi ⊢
  rw [hg 0 hpos]
  exact decN_app hpos (by rw [List.length_append]; omega) (fun h => by rw [hg 1 (by omega)]) (fun h => by rw [hg 2 (by omega)]) (fun h => by rw [hg 3 (by omega)]) hi
theorem ordB_len {s : List UInt8} (h : ordB s = true) : 3 ≤ s.length := by
  rcases Nat.lt_or_ge s.length 3 with h3 | h3
  · exfalso
    unfold ordB at h
    have hl3 : (s.take 3).length < 3 := by rw [List.length_take]; omega
    have hb : ∀ a b c, (s.take 3 == [a, b, c]) = false := fun a b c => by
      rw [beq_eq_false_iff_ne]; intro e; rw [e] at hl3; simp at hl3
    rw [hb, hb, hb, hb] at h; exact absurd h (by decide)
  · exact h3
theorem take_app {s m : List UInt8} {n : Nat} (h : n ≤ s.length) : (s ++ m).take n = s.take n := List.take_append_of_le_length h
theorem sgC_app (R : Nat) (s m : List UInt8) (hne : s ≠ []) : sgC R (s ++ 10 :: m) = sgC R s := by
  unfold sgC
  rcases s with _ | ⟨c, _ | ⟨d, t⟩⟩
  · exact absurd rfl hne
  · simp [dgU]
  · rfl
theorem textR_app (s m : List UInt8) (hne : s ≠ []) {k : Int} {t : List UInt8} {n : Nat} (h : textR s = .good k t n) : textR (s ++ m) = .good k t n := by
  have hpos : 0 < s.length := List.length_pos_iff.2 hne
  unfold textR at h ⊢
  rw [drop_app (by omega : 1 ≤ s.length)]
  cases he : endQ false 1 (s.drop 1) with
  | none => rw [he] at h; cases h
  | some i =>
    rw [he] at h
    rw [endQ_app _ _ _ _ m he]
    simp only at h ⊢
    have hl := endQ_lt _ _ _ _ he
    rw [List.length_drop] at hl
    rw [take_app (by omega : i + 1 ≤ s.length)]
    exact h
theorem tok_app (s m : List UInt8) (hne : s ≠ []) (hill : illU (decL s).1 (decL s).2 = false) {k : Int} {t : List UInt8} {n : Nat} (h : tokR s = .good k t n) : tokR (s ++ 10 :: m) = .good k t n := by
  have hpos : 0 < s.length := List.length_pos_iff.2 hne
  rw [← h]
  unfold tokR at h ⊢
  rw [dec_app s (10 :: m) hne hill, name_app, num_app, sgC_app _ _ _ hne, take_app (nameN_le s), take_app (numN_le s), take_app (by omega : 1 ≤ s.length)]
  split
  · rfl
  rename_i h1
  rw [if_neg h1] at h
  split
  · rfl
  rename_i h2
  rw [if_neg h2] at h
  split
  · rename_i h3; rw [if_pos h3] at h; rw [textR_app s _ hne h, h]
  rename_i h3
  rw [if_neg h3] at h
  split
  · rfl
  rename_i h4
  rw [if_neg h4] at h
  by_cases h5 : ordB s = true
  · have hl := ordB_len h5
    have e : ordB (s ++ 10 :: m) = true := by unfold ordB at h5 ⊢; rw [take_app hl]; exact h5
    rw [if_pos e, if_pos h5, take_app hl]
  · rw [if_neg h5] at h; cases h
theorem tok_n (s : List UInt8) (hne : s ≠ []) {k : Int} {t : List UInt8} {n : Nat} (h : tokR s = .good k t n) : n ≤ s.length := by
  have := tokR_ok s hne
  rw [h] at this
  exact this.1
end Go.Proofs.YtmifjfohanegiaaGreatDoor
