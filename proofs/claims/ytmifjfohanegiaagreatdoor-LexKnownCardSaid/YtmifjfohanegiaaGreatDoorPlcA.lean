/-
  busbarlaw04's after, plain, bytesAt: contracts.
-/
import Derived.Test.YtmifjfohanegiaaGreatDoorRlxM
import Derived.Test.YtmifjfohanegiaaGreatDoorRlxE
import Derived.Test.YtmifjfohanegiaaGreatDoorBaseD

namespace Go.Proofs.YtmifjfohanegiaaGreatDoor
set_option linter.unusedVariables false
open Go.RowKit Go.Shelf

/-- one place behind another -/
def AftP (r q : Int × Int) : Prop := q.1 < r.1 ∨ r.1 = q.1 ∧ q.2 < r.2
theorem AftP.trans {a b c : Int × Int} (h : AftP a b) (h2 : AftP b c) : AftP a c := by unfold AftP at *; omega
theorem AftP.irr {a : Int × Int} (h : AftP a a) : False := by unfold AftP at h; omega
theorem aft_next (p : Int × Int) (r : Nat) : AftP (nextP p r) p := by
  unfold AftP nextP
  split
  · left; show p.1 < p.1 + 1; omega
  · right; exact ⟨rfl, by show p.2 < p.2 + 1; omega⟩
theorem Bnd.aft {s : List UInt8} {p q : Int × Int} {n : Nat} (h : Bnd s p n q) : q = p ∧ n = 0 ∨ AftP q p := by
  induction h with
  | zero s p => exact .inl ⟨rfl, rfl⟩
  | step s p n q hne h ih =>
    rcases ih with ⟨rfl, _⟩ | h2
    · exact .inr (aft_next _ _)
    · exact .inr (h2.trans (aft_next _ _))
theorem Bnd.rise {s : List UInt8} {p q : Int × Int} {i : Nat} (h : Bnd s p i q) : ∀ {j : Nat} {r : Int × Int}, Bnd s p j r → i < j → AftP r q := by
  induction h with
  | zero s p =>
    intro j r h2 hij
    rcases h2.aft with ⟨_, h3⟩ | h3
    · omega
    · exact h3
  | step s p n q hne h ih =>
    intro j r h2 hij
    cases h2 with
    | zero => omega
    | step _ _ m _ _ h3 => exact ih h3 (by omega)
theorem Bnd.uniq {s : List UInt8} {p q : Int × Int} {i j : Nat} (h : Bnd s p i q) (h2 : Bnd s p j q) : i = j := by
  rcases Nat.lt_trichotomy i j with h3 | h3 | h3
  · exact (h.rise h2 h3).irr.elim
  · exact h3
  · exact (h2.rise h h3).irr.elim

/-- tokens from a place on -/
inductive Chain (s : List UInt8) : Nat → List TokD → Prop where
  | fin (n : Nat) (q : Int × Int) (hn : n ≤ s.length) (hb : Bnd s (1, 1) s.length q) : Chain s n [endTok q]
  | tok (n i m : Nat) (t : TokD) (r : List TokD) (hn : n ≤ i) (hi : i < s.length) (hb : Bnd s (1, 1) i (t.line, t.col)) (ht : tokR (s.drop i) = .good t.kind t.text m) (hm : 1 ≤ m) (hr : Chain s (i + m) r) : Chain s n (t :: r)
theorem Chain.mono {s : List UInt8} {n k : Nat} {l : List TokD} (h : Chain s n l) (hk : k ≤ n) : Chain s k l := by
  cases h with
  | fin _ q hn hb => exact .fin _ q (by omega) hb
  | tok _ i m t r hn hi hb ht hm hr => exact .tok _ i m t r (by omega) hi hb ht hm hr
theorem RefI.chain {s : List UInt8} {V : ScanR} {l : List TokD} (hV : V = .good l) : ∀ (f i : Nat) (acc : List TokD) (q : Int × Int), s.length - i ≤ f → RefI s V i acc q → ∃ r, l = acc ++ r ∧ Chain s i r := by
  have done : ∀ (i : Nat) (acc : List TokD) (q : Int × Int), i = s.length → RefI s V i acc q → ∃ r, l = acc ++ r ∧ Chain s i r := fun i acc q hi h => by
    have h2 := h.fin hi
    rw [hV] at h2
    injection h2 with h2
    subst hi
    exact ⟨[endTok q], h2, .fin _ q (Nat.le_refl _) h.hb⟩
  intro f
  induction f with
  | zero => intro i acc q hf h; exact done i acc q (by have := h.hk; omega) h
  | succ f ih =>
    intro i acc q hf h
    by_cases hlt : i < s.length
    · cases hb : blankU s[i].toNat
      · cases ht : tokR (s.drop i) with
        | bad e =>
          have := h.bad hlt hb ht
          rw [hV] at this
          cases this
        | good k t n =>
          obtain ⟨h1, q', h2⟩ := h.good hlt hb ht
          obtain ⟨r, h3, h4⟩ := ih (i + n) _ q' (by omega) h2
          exact ⟨⟨k, t, q.1, q.2⟩ :: r, by rw [h3, List.append_assoc]; rfl, .tok _ i n ⟨k, t, q.1, q.2⟩ r (Nat.le_refl _) hlt h.hb ht h1 h4⟩
      · obtain ⟨q', h2⟩ := h.blank hlt hb
        obtain ⟨r, h3, h4⟩ := ih (i + 1) _ q' (by omega) h2
        exact ⟨r, h3, h4.mono (Nat.le_succ _)⟩
    · exact done i acc q (by have := h.hk; omega) h
theorem scanL_chain {s : List UInt8} {l : List TokD} (h : scanL s = .good l) : Chain s 0 l := by
  have h2 : scanL s = scanF s.length s 0 (1, 1) [] := by
    rcases checkV_or s with ⟨_, _, h3⟩ | ⟨_, _, _, h3⟩
    · exact h3
    · rw [h] at h3; cases h3
  have h3 : RefI s (scanL s) 0 [] (1, 1) := ⟨Nat.zero_le _, .zero _ _, h2⟩
  obtain ⟨r, h4, h5⟩ := RefI.chain h s.length 0 [] (1, 1) (by omega) h3
  rw [List.nil_append] at h4
  rw [h4]; exact h5
/-- what is known of the i-th token -/
structure TokAt (s : List UInt8) (l : List TokD) (i : Nat) (h : i < l.length) (k : Nat) : Prop where
  bnd : Bnd s (1, 1) k (l[i].line, l[i].col)
  last : i + 1 = l.length → l[i].kind = 0 ∧ l[i].text = []
  tok : i + 1 < l.length → k < s.length ∧ ∃ m, tokR (s.drop k) = .good l[i].kind l[i].text m
theorem Chain.at {s : List UInt8} {n : Nat} {l : List TokD} (hc : Chain s n l) : ∀ (i : Nat) (h : i < l.length), ∃ k, n ≤ k ∧ TokAt s l i h k ∧ ∀ h2 : i + 1 < l.length, ∃ k', k < k' ∧ TokAt s l (i + 1) h2 k' := by
  induction hc with
  | fin n q hn hb =>
    intro i h
    have : i = 0 := by simpa using h
    subst this
    exact ⟨s.length, hn, ⟨hb, fun _ => ⟨rfl, rfl⟩, fun h2 => absurd h2 (by simp)⟩, fun h2 => absurd h2 (by simp)⟩
  | tok n i m t r hn hi hb ht hm hr ih =>
    have hrl : 0 < r.length := by cases hr <;> simp
    intro j h
    cases j with
    | zero =>
      refine ⟨i, hn, ⟨hb, fun h2 => ?_, fun _ => ⟨hi, m, ht⟩⟩, fun h2 => ?_⟩
      · rw [List.length_cons] at h2; omega
      · obtain ⟨k, h3, h4, _⟩ := ih 0 hrl
        exact ⟨k, by omega, ⟨h4.bnd, fun h5 => h4.last (by rw [List.length_cons] at h5; omega), fun h5 => h4.tok (by rw [List.length_cons] at h5; omega)⟩⟩
    | succ j =>
      have hj : j < r.length := by simpa using h
      obtain ⟨k, h3, h4, h6⟩ := ih j hj
      refine ⟨k, by omega, ⟨h4.bnd, fun h5 => h4.last (by simpa using h5), fun h5 => h4.tok (by simpa using h5)⟩, fun h2 => ?_⟩
      obtain ⟨k', h7, h8⟩ := h6 (by simpa using h2)
      exact ⟨k', h7, ⟨h8.bnd, fun h5 => h8.last (by simpa using h5), fun h5 => h8.tok (by simpa using h5)⟩⟩
theorem Chain.ne {s : List UInt8} {n : Nat} {l : List TokD} (hc : Chain s n l) : 0 < l.length := by cases hc <;> simp

/-- the text of a token that is no text in quotes -/
theorem tok_text {s : List UInt8} {k : Int} {t : List UInt8} {n : Nat} (h : tokR s = .good k t n) (h3 : k ≠ 3) : t = s.take n := by
  unfold tokR at h
  split at h
  · cases h; rfl
  · split at h
    · split at h
      · cases h
      · cases h; rfl
    · split at h
      · unfold textR at h
        split at h
        · cases h
        · split at h
          · split at h <;> cases h
          · cases h; exact absurd rfl h3
      · split at h
        · cases h; rfl
        · split at h
          · cases h; rfl
          · cases h

/-! ### numbers are read -/
theorem tw_take : ∀ (l : List UInt8) (k : Nat), tw (l.take k) = (tw l).take k
  | [], k => by simp [tw]
  | c :: t, 0 => by simp [tw]
  | c :: t, k + 1 => by
    rw [List.take_succ_cons]
    cases h : isDg c
    · rw [tw_stop h, tw_stop h]; simp
    · rw [tw_cons h, tw_cons h, List.take_succ_cons, tw_take t k]
theorem dw_drop : ∀ (l : List UInt8), dw l = l.drop (tw l).length
  | [] => rfl
  | c :: t => by
    cases h : isDg c
    · rw [tw_stop h, dw_stop h]; rfl
    · rw [tw_cons h, dw_cons h, dw_drop t]; rfl
theorem dw_take (l : List UInt8) (k : Nat) (h : (tw l).length ≤ k) : dw (l.take k) = (l.drop (tw l).length).take (k - (tw l).length) := by
  rw [dw_drop, tw_take, List.length_take, Nat.min_eq_right h, List.drop_take]
theorem tw_take_all (l : List UInt8) (k : Nat) (h : (tw l).length ≤ k) : tw (l.take k) = tw l := by
  rw [tw_take, List.take_of_length_le h]
theorem cutS_take : ∀ (l : List UInt8) (k : Nat), (cutS (l.take (sgnN l + k))).2 = (l.drop (sgnN l)).take k
  | [], k => by simp [cutS]
  | c :: t, k => by
    show (cutS ((c :: t).take ((if isSg c = true then 1 else 0) + k))).2 = ((c :: t).drop (if isSg c = true then 1 else 0)).take k
    cases h : isSg c
    · rw [if_neg (by decide), Nat.zero_add]
      cases k with
      | zero => rfl
      | succ k => simp [cutS, h]
    · rw [if_pos rfl, Nat.add_comm, List.take_succ_cons]
      simp [cutS, h]
theorem num3_nz {s : List UInt8} {n N : Nat} (h : num3T s n = N) (hN : N ≠ 0) : N = n := by
  rw [num3_at] at h
  split at h
  · exact absurd h.symm hN
  · exact h.symm
theorem cutE_take {s : List UInt8} {n N : Nat} (h : num2T s n = N) (hN : N ≠ 0) : n ≤ N ∧ ∃ d p, cutE ((s.drop n).take (N - n)) = some (d, p, []) := by
  by_cases hn : n < s.length
  · unfold num2T at h
    rw [at_some hn] at h
    simp only at h
    split at h
    · rename_i hE
      split at h
      · exact absurd h.symm hN
      · rename_i htw
        have := num3_nz h hN
        refine ⟨by omega, (cutS ((s.drop (n + 1)).take (sgnN (s.drop (n + 1)) + (tw (s.drop (n + 1 + sgnN (s.drop (n + 1))))).length))).1, tw (s.drop (n + 1 + sgnN (s.drop (n + 1)))), ?_⟩
        rw [List.drop_eq_getElem_cons hn, show N - n = (sgnN (s.drop (n + 1)) + (tw (s.drop (n + 1 + sgnN (s.drop (n + 1))))).length) + 1 by omega, List.take_succ_cons]
        unfold cutE
        simp only [hE, if_true]
        have h1 := cutS_take (s.drop (n + 1)) (tw (s.drop (n + 1 + sgnN (s.drop (n + 1))))).length
        rw [List.drop_drop] at h1
        rw [h1, tw_take_all _ _ (Nat.le_refl _), if_neg htw, dw_take _ _ (Nat.le_refl _), Nat.sub_self, List.take_zero]
    · have := num3_nz h hN
      subst this
      exact ⟨Nat.le_refl _, false, [], by rw [Nat.sub_self, List.take_zero]; rfl⟩
  · rw [num2_end hn] at h
    subst h
    exact ⟨Nat.le_refl _, false, [], by rw [Nat.sub_self, List.take_zero]; rfl⟩
theorem cutP_take {s : List UInt8} {n N : Nat} (h : num1T s n = N) (hN : N ≠ 0) : n ≤ N ∧ ∃ b r d p, cutP ((s.drop n).take (N - n)) = some (b, r) ∧ cutE r = some (d, p, []) := by
  by_cases hn : n < s.length
  · unfold num1T at h
    rw [at_some hn] at h
    simp only at h
    split at h
    · rename_i hE
      split at h
      · exact absurd h.symm hN
      · rename_i htw
        obtain ⟨h1, d, p, h2⟩ := cutE_take h hN
        refine ⟨by omega, tw (s.drop (n + 1)), (s.drop (n + (1 + (tw (s.drop (n + 1))).length))).take (N - (n + (1 + (tw (s.drop (n + 1))).length))), d, p, ?_, h2⟩
        rw [List.drop_eq_getElem_cons hn, show N - n = (N - n - 1) + 1 by omega, List.take_succ_cons, hE]
        unfold cutP
        simp only [if_true]
        rw [tw_take_all _ _ (by omega), if_neg htw, dw_take _ _ (by omega), List.drop_drop, show n + 1 + (tw (s.drop (n + 1))).length = n + (1 + (tw (s.drop (n + 1))).length) by omega, show N - n - 1 - (tw (s.drop (n + 1))).length = N - (n + (1 + (tw (s.drop (n + 1))).length)) by omega]
    · rename_i hE
      obtain ⟨h1, d, p, h2⟩ := cutE_take h hN
      refine ⟨h1, [], (s.drop n).take (N - n), d, p, ?_, h2⟩
      rw [List.drop_eq_getElem_cons hn]
      cases hk : N - n with
      | zero => rfl
      | succ k => rw [List.take_succ_cons]; unfold cutP; simp only; rw [if_neg hE]
  · rw [num1_end hn] at h
    subst h
    exact ⟨Nat.le_refl _, [], [], false, [], by rw [Nat.sub_self, List.take_zero]; rfl, rfl⟩
theorem num_read {s : List UInt8} (h1 : tw (s.drop (sgnN s)) ≠ []) (h2 : numN s ≠ 0) : ∃ x, readL (s.take (numN s)) = some x := by
  obtain ⟨N, hN⟩ : ∃ N, numN s = N := ⟨_, rfl⟩
  rw [hN] at h2 ⊢
  have h3 : num1T s (sgnN s + (tw (s.drop (sgnN s))).length) = N := hN
  obtain ⟨h4, b, r, d, p, h5, h6⟩ := cutP_take h3 h2
  have e := cutS_take s (N - sgnN s)
  rw [show sgnN s + (N - sgnN s) = N by omega] at e
  rw [r0, e, tw_take_all _ _ (by omega), if_neg h1, dw_take _ _ (by omega), List.drop_drop, show N - sgnN s - (tw (s.drop (sgnN s))).length = N - (sgnN s + (tw (s.drop (sgnN s))).length) by omega]
  unfold outP
  rw [h5]
  simp only
  unfold outE
  rw [h6]
  simp
theorem tok_num {s : List UInt8} (hne : s ≠ []) {t : List UInt8} {n : Nat} (h : tokR s = .good 2 t n) : ∃ x, readL t = some x := by
  obtain ⟨c, u, rfl⟩ := List.exists_cons_of_ne_nil hne
  rw [tok_bytes] at h
  split at h
  · cases h
  · split at h
    · rename_i h2
      split at h
      · cases h
      · rename_i h3
        cases h
        exact num_read (num_first c u h2) h3
    · split at h
      · unfold textR at h
        split at h
        · cases h
        · split at h
          · split at h <;> cases h
          · cases h
      · split at h
        · cases h
        · split at h <;> cases h
end Go.Proofs.YtmifjfohanegiaaGreatDoor

namespace Go.Proofs.YtmifjfohanegiaaGreatDoor
set_option linter.unusedVariables false
open Go.RowKit Go.Shelf

set_option maxRecDepth 100000 in
set_option maxHeartbeats 2000000 in
theorem after_any (a0 a1 b0 b1 : Int) (h : AftP (a0, a1) (b0, b1)) (w : World) :
    Calls Tryz.prog 12 #[.agg #[.int .i64 a0, .int .i64 a1], .agg #[.int .i64 b0, .int .i64 b1]] w fun e w' => e = .returned (.bool true) ∧ Below w.heap.size w w' := by
  obtain ⟨ta, tb, hsz, hbw⟩ := box2 w #[.int .i64 a0, .int .i64 a1] #[.int .i64 b0, .int .i64 b1] 31 31
  obtain ⟨c0, c1, f0, f1⟩ := ta.two
  obtain ⟨d0, d1, g0, g1⟩ := tb.two
  have HB := Lib.hid hbw
  clear ta tb hsz hbw
  by_cases h1 : b0 < a0
  · go_enter Tryz.func12, Tryz.ntmps12
    go_wp2_with fail
    go_ret
    exact ⟨rfl, HB.out⟩
  · have h2 : a0 = b0 ∧ b1 < a1 := by unfold AftP at h; simp only at h; omega
    obtain ⟨rfl, h3⟩ := h2
    clear h
    have e1 : (a0 == a0) = true := by simp
    go_enter Tryz.func12, Tryz.ntmps12
    go_wp2_with fail
    go_ret
    exact ⟨rfl, HB.out⟩

def ascL (s : List UInt8) : Bool := s.all fun c => decide (c.toNat ≤ 127)
theorem asc_at {s : List UInt8} (h : ascL s = true) (i : Nat) (hi : i < s.length) : s[i].toNat ≤ 127 := by
  have := List.all_eq_true.1 h s[i] (List.getElem_mem hi)
  simpa using this
theorem asc_drop {s : List UInt8} (i : Nat) (hi : i < s.length) : ascL (s.drop i) = (decide (s[i].toNat ≤ 127) && ascL (s.drop (i + 1))) := by
  unfold ascL
  rw [List.drop_eq_getElem_cons hi, List.all_cons]
set_option maxRecDepth 100000 in
set_option maxHeartbeats 2000000 in
theorem plain4_any (s : List UInt8) (hs : s.length ≤ 9223372036854775807) (w : World) :
    Calls Tryz.prog 11 #[.string ⟨s.toArray⟩] w fun e w' => e = .returned (.bool (ascL s)) ∧ Below w.heap.size w w' := by
  obtain ⟨T, hT⟩ : ∃ T, T = ascL s := ⟨_, rfl⟩
  rw [← hT]
  have HT := Lib.hid hT
  clear hT
  go_enter Tryz.func11, Tryz.ntmps11
  go_wp2_with fail
  go_loopw [3] (fun i wr => ∃ k : Nat, k ≤ s.length ∧ i = .int .i64 k ∧ T = ascL (s.drop k) ∧ Below w.heap.size w wr) (fun i _ => s.length - (intOf i).toNat)
  case atStart => exact ⟨0, Nat.zero_le _, rfl, by rw [HT.out]; rfl, Below.refl _ _⟩
  case round =>
    clear HT
    obtain ⟨k, hk, rfl, hTk, hbel⟩ := hrel
    have HBE := Lib.hid hbel
    clear hbel
    by_cases hlt : k < s.length
    · have hget : (⟨s.toArray⟩ : ByteArray)[k]'hlt = s[k] := rfl
      rw [asc_drop k hlt] at hTk
      generalize s[k] = c at *
      by_cases hc : (127 : Int) < c.toNat
      · have HTK := Lib.hid (show T = false by rw [hTk, decide_eq_false (by omega), Bool.false_and])
        clear hTk
        go_wp2_with fail
        go_ret
        exact ⟨by rw [HTK.out] <;> rfl, HBE.out⟩
      · have HTK := Lib.hid (show T = ascL (s.drop (k + 1)) by rw [hTk, decide_eq_true (by omega), Bool.true_and])
        clear hTk
        go_wp2_with fail
        go_roundw
        case rel => exact ⟨k + 1, by omega, by go_num, HTK.out, HBE.out⟩
        case measure => simp [intOf]; omega
    · have : k = s.length := by omega
      subst this
      have HTK := Lib.hid (show T = true by rw [hTk, List.drop_length]; rfl)
      clear hTk
      go_wp2_with fail
      go_ret
      exact ⟨by rw [HTK.out] <;> rfl, HBE.out⟩

set_option maxRecDepth 100000 in
set_option maxHeartbeats 4000000 in
theorem bytesAt_any (s : List UInt8) (hs : s.length ≤ 1000000000) (ha : ascL s = true) (n : Nat) (hn : n < s.length) (L C : Int) (hb : Bnd s (1, 1) n (L, C)) (w : World) :
    Calls Tryz.prog 15 #[.string ⟨s.toArray⟩, .agg #[.int .i64 L, .int .i64 C]] w fun e w' => e = .returned (.int .i64 (n : Nat)) ∧ Below w.heap.size w w' := by
  obtain ⟨ta, hsz, hbw⟩ := box1 w #[.int .i64 L, .int .i64 C] 31
  have TA := Lib.hid ta
  have HB0 := Lib.hid hbw
  have HBN := Lib.hid hb
  have HA := Lib.hid ha
  clear ta hsz hbw hb ha
  go_enter Tryz.func15, Tryz.ntmps15
  go_wp2_with fail
  generalize w.alloc (.cells #[.int .i64 L, .int .i64 C] 31) = W at *
  go_loopw [5, 6, 7] (fun x y i wr => ∃ (k : Nat) (q0 q1 : Int), k ≤ n ∧ i = .int .i64 k ∧ x = .int .i64 q0 ∧ y = .int .i64 q1 ∧ 0 < q0 ∧ q0 ≤ 1 + k ∧ 0 < q1 ∧ q1 ≤ 1 + k ∧ Bnd s (1, 1) k (q0, q1) ∧ Below W.heap.size W wr) (fun _ _ i _ => n - (intOf i).toNat)
  case atStart => exact ⟨0, 1, 1, Nat.zero_le _, rfl, rfl, rfl, by decide, by decide, by decide, by decide, .zero _ _, Below.refl _ _⟩
  case round =>
    obtain ⟨k, q0, q1, hk, rfl, rfl, rfl, hq0, hq1, hq2, hq3, hbd, hbel⟩ := hrel
    have HBE := Lib.hid hbel
    obtain ⟨c0, c1, -, -⟩ := (TA.out.keep hbel (Nat.le_refl _)).two
    have hlt : (k : Int) < s.length := by omega
    have hkl : k < s.length := by omega
    have HBD := Lib.hid hbd
    clear hbel hbd
    by_cases hkn : k = n
    · have hq := HBN.out
      rw [← hkn] at hq
      have e : ((q0, q1) : Int × Int) = (L, C) := by
        have h1 := HBD.out.place _ (Nat.le_refl _)
        have h2 := hq.place _ (Nat.le_refl _)
        rw [h1] at h2
        exact Option.some.inj h2
      injection e with e1 e2
      have HKN := Lib.hid hkn
      clear hq hkn
      subst e1
      subst e2
      have g1 : (q0 == q0) = true := by simp
      have g2 : (q1 == q1) = true := by simp
      go_wp2_with fail
      go_ret
      exact ⟨by rw [HKN.out] <;> rfl, HB0.out.trans (HBE.out.mono HB0.out.size)⟩
    · have hne : ¬ (q0 = L ∧ q1 = C) := by
        rintro ⟨rfl, rfl⟩
        exact hkn (HBD.out.uniq HBN.out)
      have hget : (⟨s.toArray⟩ : ByteArray)[k]'hkl = s[k] := rfl
      have hasc := asc_at HA.out k hkl
      have hstep : Bnd s (1, 1) (k + 1) (nextP (q0, q1) s[k].toNat) := by
        have hd := List.drop_eq_getElem_cons hkl
        have e := dec_ascii s[k] (s.drop (k + 1)) (by omega)
        have h1 := Bnd.step (s.drop k) (q0, q1) 0 _ (by rw [hd]; exact List.cons_ne_nil _ _) (.zero _ _)
        rw [hd, e, ← hd] at h1
        exact HBD.out.trans h1
      have HST := Lib.hid hstep
      have hw1 : IntKind.i64.wrap (q1 + 1) = q1 + 1 := by unfold IntKind.wrap; simp [IntKind.bits, IntKind.signed]; omega
      have hw0 : IntKind.i64.wrap (q0 + 1) = q0 + 1 := by unfold IntKind.wrap; simp [IntKind.bits, IntKind.signed]; omega
      clear hstep hasc
      generalize s[k] = ch at *
      cases g10 : ((ch.toNat : Int) == 10)
      · have hnx : nextP (q0, q1) ch.toNat = (q0, q1 + 1) := by
          unfold nextP
          rw [beq_eq_false_iff_ne] at g10
          rw [if_neg (by omega)]
        have HNX := Lib.hid hnx
        clear hnx
        by_cases h1 : q0 = L
        · have g1 : (q0 == L) = true := by simp [h1]
          have g2 : (q1 == C) = false := by rw [beq_eq_false_iff_ne]; exact fun h2 => hne ⟨h1, h2⟩
          clear hne h1
          go_wp2_with fail
          go_roundw
          case rel => exact ⟨k + 1, q0, q1 + 1, by omega, by go_num, rfl, by first | rfl | go_num, hq0, by omega, by omega, by omega, by have := HST.out; rw [HNX.out] at this; exact this, HBE.out⟩
          case measure => simp [intOf]; omega
        · have g1 : (q0 == L) = false := by rw [beq_eq_false_iff_ne]; exact h1
          clear hne h1
          go_wp2_with fail
          go_roundw
          case rel => exact ⟨k + 1, q0, q1 + 1, by omega, by go_num, rfl, by first | rfl | go_num, hq0, by omega, by omega, by omega, by have := HST.out; rw [HNX.out] at this; exact this, HBE.out⟩
          case measure => simp [intOf]; omega
      · have hnx : nextP (q0, q1) ch.toNat = (q0 + 1, 1) := by
          unfold nextP
          rw [beq_iff_eq] at g10
          rw [if_pos (by omega)]
        have HNX := Lib.hid hnx
        clear hnx
        by_cases h1 : q0 = L
        · have g1 : (q0 == L) = true := by simp [h1]
          have g2 : (q1 == C) = false := by rw [beq_eq_false_iff_ne]; exact fun h2 => hne ⟨h1, h2⟩
          clear hne h1
          go_wp2_with fail
          go_roundw
          case rel => exact ⟨k + 1, q0 + 1, 1, by omega, by go_num, by first | rfl | go_num, rfl, by omega, by omega, by decide, by omega, by have := HST.out; rw [HNX.out] at this; exact this, HBE.out⟩
          case measure => simp [intOf]; omega
        · have g1 : (q0 == L) = false := by rw [beq_eq_false_iff_ne]; exact h1
          clear hne h1
          go_wp2_with fail
          go_roundw
          case rel => exact ⟨k + 1, q0 + 1, 1, by omega, by go_num, by first | rfl | go_num, rfl, by omega, by omega, by decide, by omega, by have := HST.out; rw [HNX.out] at this; exact this, HBE.out⟩
          case measure => simp [intOf]; omega
end Go.Proofs.YtmifjfohanegiaaGreatDoor
