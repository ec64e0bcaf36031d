/-
  Plain facts on the sum of 15 bits: of at most five ones in a row of at most 127 bits the sum isn't 0 (so six places differ at least); a burst within 15 places is seen. (No program here.)
-/
import Derived.Test.YtflghgilcooiiaaCrcM
namespace Go.Proofs.Ytflghgilcooiiaa
set_option linter.unusedVariables false

/-- the sum of a one with k noughts behind it -/
def colC (k : Nat) : Nat := (List.replicate k false).foldl nx (nx 0 true)

theorem zip_false : ∀ l : List Bool, List.zipWith (· ^^ ·) (List.replicate l.length false) l = l
  | [] => rfl
  | b :: l => by
    rw [List.length_cons, List.replicate_succ, List.zipWith_cons_cons, zip_false l]
    simp
theorem foldl_zero : ∀ n, (List.replicate n false).foldl nx 0 = 0
  | 0 => rfl
  | n + 1 => by rw [List.replicate_succ, List.foldl_cons]; exact foldl_zero n
theorem crcN_cons (b : Bool) (l : List Bool) : crcN (b :: l) = (if b then colC l.length else 0) ^^^ crcN l := by
  have h := foldl_xor (List.replicate l.length false) l (nx 0 b) 0 (by simp) (nx_lt _ _) (by decide)
  rw [zip_false, Nat.xor_zero] at h
  unfold crcN
  rw [List.foldl_cons, h]
  cases b
  · have : nx 0 false = 0 := by decide
    rw [this, foldl_zero]; rfl
  · rfl

/-- the places of the ones, counted from the end -/
def ones : List Bool → List Nat
  | [] => []
  | b :: l => if b then l.length :: ones l else ones l
def xsum (l : List Nat) : Nat := l.foldr (fun k a => colC k ^^^ a) 0
theorem crcN_ones : ∀ l : List Bool, crcN l = xsum (ones l)
  | [] => rfl
  | b :: l => by
    rw [crcN_cons, crcN_ones l]
    cases b
    · simp [ones]
    · simp [ones, xsum]
theorem ones_count : ∀ l : List Bool, (ones l).length = l.count true
  | [] => rfl
  | b :: l => by
    cases b
    · simp [ones, ones_count l]
    · simp [ones, ones_count l]
theorem ones_sub : ∀ l : List Bool, List.Sublist (ones l) (List.range l.length).reverse
  | [] => by simp [ones]
  | b :: l => by
    rw [List.length_cons, List.range_succ, List.reverse_append, List.reverse_singleton, List.singleton_append]
    cases b
    · simpa [ones] using (ones_sub l).cons l.length
    · simpa [ones] using (ones_sub l).cons_cons l.length

/-! ### parity -/
def par (x : Nat) : Bool := (List.range 15).foldl (fun a i => a ^^ x.testBit i) false
theorem par_fold (x y : Nat) : ∀ (l : List Nat) (a b : Bool), l.foldl (fun a i => a ^^ (x ^^^ y).testBit i) (a ^^ b) = (l.foldl (fun a i => a ^^ x.testBit i) a ^^ l.foldl (fun a i => a ^^ y.testBit i) b)
  | [], _, _ => rfl
  | i :: l, a, b => by
    rw [List.foldl_cons, List.foldl_cons, List.foldl_cons, Nat.testBit_xor, ← par_fold x y l]
    congr 1
    cases a <;> cases b <;> cases x.testBit i <;> cases y.testBit i <;> rfl
theorem par_xor (x y : Nat) : par (x ^^^ y) = (par x ^^ par y) := par_fold x y (List.range 15) false false

/-! ### the table of 127 columns -/
def colsC : List Nat := (List.range 127).reverse.map colC
theorem cols_par : colsC.all par = true := by decide +kernel
def pairsOf : List Nat → List Nat
  | [] => []
  | x :: l => l.map (x ^^^ ·) ++ pairsOf l
/-- no number of the list is met before; m marks those that were met -/
def fresh : List Nat → Nat → Bool
  | [], _ => true
  | x :: l, m => if m.testBit x then false else fresh l (m ||| (1 <<< x))
theorem fresh_ok : ∀ (l : List Nat) (m : Nat), fresh l m = true → l.Nodup ∧ ∀ x ∈ l, m.testBit x = false
  | [], _, _ => ⟨List.nodup_nil, fun _ h => by simp at h⟩
  | x :: l, m, h => by
    unfold fresh at h
    split at h
    · cases h
    · rename_i hx
      obtain ⟨h1, h2⟩ := fresh_ok l _ h
      have hx' : m.testBit x = false := by simpa using hx
      refine ⟨List.nodup_cons.2 ⟨fun hm => ?_, h1⟩, fun y hy => ?_⟩
      · have := h2 x hm
        rw [Nat.testBit_or, Nat.one_shiftLeft, Nat.testBit_two_pow_self] at this
        simp at this
      · rcases List.mem_cons.1 hy with rfl | hy
        · exact hx'
        · have := h2 y hy
          rw [Nat.testBit_or] at this
          simp only [Bool.or_eq_false_iff] at this
          exact this.1
theorem pairs_fresh : fresh (pairsOf colsC) 1 = true := by decide +kernel
theorem pairs_nodup : (pairsOf colsC).Nodup := (fresh_ok _ _ pairs_fresh).1
theorem pairs_pos (x : Nat) (h : x ∈ pairsOf colsC) : x ≠ 0 := by
  intro e
  subst e
  have := (fresh_ok _ _ pairs_fresh).2 0 h
  simp at this

theorem pair_mem : ∀ {t : List Nat} {x y : Nat}, List.Sublist [x, y] t → x ^^^ y ∈ pairsOf t
  | [], _, _, h => by simp at h
  | a :: t, x, y, h => by
    cases h with
    | cons _ h => exact List.mem_append.2 (.inr (pair_mem h))
    | cons_cons _ h => exact List.mem_append.2 (.inl (List.mem_map.2 ⟨y, by simpa using h.subset (List.mem_singleton.2 rfl), rfl⟩))
theorem four_ne : ∀ {t : List Nat} {w x y z : Nat}, (pairsOf t).Nodup → List.Sublist [w, x, y, z] t → w ^^^ x ≠ y ^^^ z
  | [], _, _, _, _, _, h => by simp at h
  | a :: t, w, x, y, z, hn, h => by
    obtain ⟨h1, h2, h3⟩ := List.nodup_append.1 hn
    cases h with
    | cons _ h => exact four_ne h2 h
    | cons_cons _ h =>
      have hx : x ∈ t := h.subset (by simp)
      have hyz : List.Sublist [y, z] t := (List.sublist_cons_self x [y, z]).trans h
      exact h3 _ (List.mem_map.2 ⟨x, hx, rfl⟩) _ (pair_mem hyz)

theorem xor_eq_zero {a b : Nat} (h : a ^^^ b = 0) : a = b := by
  have : a ^^^ b ^^^ b = b := by rw [h, Nat.zero_xor]
  rwa [Nat.xor_assoc, Nat.xor_self, Nat.xor_zero] at this

/-- a row of at most 127 bits with the sum 0 that holds a one holds six at least -/
theorem six_ones (e : List Bool) (hl : e.length ≤ 127) (hc : crcN e = 0) (h1 : true ∈ e) : 6 ≤ e.count true := by
  have hpos : 0 < e.count true := List.count_pos_iff.2 h1
  rw [← ones_count] at hpos ⊢
  rw [crcN_ones] at hc
  have hsub : List.Sublist ((ones e).map colC) colsC := by
    have h2 : List.Sublist (List.range e.length).reverse (List.range 127).reverse := List.Sublist.reverse (by
      have : List.range 127 = List.range (e.length + (127 - e.length)) := by congr 1; omega
      rw [this, List.range_add]
      exact List.sublist_append_left _ _)
    exact ((ones_sub e).trans h2).map colC
  have hp : ∀ k ∈ ones e, par (colC k) = true := fun k hk => List.all_eq_true.1 cols_par _ (hsub.subset (List.mem_map.2 ⟨k, hk, rfl⟩))
  have hz : par 0 = false := by decide
  generalize ones e = o at *
  match o, hpos with
  | [a], _ =>
    exfalso
    have := congrArg par hc
    simp only [xsum, List.foldr_cons, List.foldr_nil, par_xor, hz, hp a (by simp)] at this
    simp at this
  | [a, b], _ =>
    exfalso
    simp only [xsum, List.foldr_cons, List.foldr_nil, Nat.xor_zero] at hc
    exact pairs_pos _ (pair_mem hsub) hc
  | [a, b, c], _ =>
    exfalso
    have := congrArg par hc
    simp only [xsum, List.foldr_cons, List.foldr_nil, par_xor, hz, hp a (by simp), hp b (by simp), hp c (by simp)] at this
    simp at this
  | [a, b, c, d], _ =>
    exfalso
    simp only [xsum, List.foldr_cons, List.foldr_nil, Nat.xor_zero] at hc
    rw [← Nat.xor_assoc] at hc
    exact four_ne pairs_nodup hsub (xor_eq_zero hc)
  | [a, b, c, d, f], _ =>
    exfalso
    have := congrArg par hc
    simp only [xsum, List.foldr_cons, List.foldr_nil, par_xor, hz, hp a (by simp), hp b (by simp), hp c (by simp), hp d (by simp), hp f (by simp)] at this
    simp at this
  | _ :: _ :: _ :: _ :: _ :: _ :: _, _ => simp

theorem sumBits_xor (a b : Nat) : List.zipWith (· ^^ ·) (sumBits a) (sumBits b) = sumBits (a ^^^ b) := by
  have e : ∀ x j : Nat, (x / 2 ^ j % 2 == 1) = x.testBit j := fun x j => by
    rw [Nat.testBit_eq_decide_div_mod_eq, Bool.eq_iff_iff]; simp
  unfold sumBits
  simp only [e, Nat.testBit_xor]
  rw [List.zipWith_map, List.zipWith_self]
theorem withN_xor (l m : List Bool) (h : l.length = m.length) : List.zipWith (· ^^ ·) (withN l) (withN m) = withN (List.zipWith (· ^^ ·) l m) := by
  unfold withN
  rw [List.zipWith_append h, sumBits_xor, ← crcN_xor l m h]

theorem zip_true : ∀ {l m : List Bool}, l.length = m.length → l ≠ m → true ∈ List.zipWith (· ^^ ·) l m
  | [], [], _, h => absurd rfl h
  | a :: l, b :: m, hl, h => by
    rw [List.zipWith_cons_cons]
    by_cases e : a = b
    · subst e
      exact List.mem_cons_of_mem _ (zip_true (by simpa using hl) (fun e => h (by rw [e])))
    · have : (a ^^ b) = true := by cases a <;> cases b <;> simp_all
      rw [this]
      exact List.mem_cons_self
  | [], _ :: _, h, _ => by simp at h
  | _ :: _, [], h, _ => by simp at h

/-- six places differ at least -/
theorem six_places (l m : List Bool) (h : l.length = m.length) (hl : l.length ≤ 112) (hne : l ≠ m) : 6 ≤ (List.zipWith (· ^^ ·) (withN l) (withN m)).count true := by
  rw [withN_xor l m h]
  refine six_ones _ ?_ (withN_zero _) ?_
  · simp [withN, sumBits_len]; omega
  · exact List.mem_append.2 (.inl (zip_true h hne))
theorem same_places (l : List Bool) : (List.zipWith (· ^^ ·) (withN l) (withN l)).count true = 0 := by
  rw [List.zipWith_self]
  exact List.count_eq_zero.2 (by simp)

/-! ### bursts -/
theorem nx_false_zero (r : Nat) (h : r < 32768) (h0 : nx r false = 0) : r = 0 := by
  unfold nx at h0
  split at h0
  · rename_i hb
    simp only [beq_iff_eq] at hb
    simp at hb
    omega
  · have := xor_eq_zero h0
    omega
theorem foldl_false_zero : ∀ (n r : Nat), r < 32768 → (List.replicate n false).foldl nx r = 0 → r = 0
  | 0, _, _, h => h
  | n + 1, r, hr, h => by
    rw [List.replicate_succ, List.foldl_cons] at h
    exact nx_false_zero r hr (foldl_false_zero n _ (nx_lt _ _) h)
theorem bits_of (B : List Bool) (h : B.length = 15) : ∃ m, m < 32768 ∧ sumBits m = B := by
  match B, h with
  | [b0, b1, b2, b3, b4, b5, b6, b7, b8, b9, b10, b11, b12, b13, b14], _ =>
    have hb : ∀ b : Bool, b.toNat ≤ 1 := fun b => by cases b <;> decide
    have h0 := hb b0
    have h1 := hb b1
    have h2 := hb b2
    have h3 := hb b3
    have h4 := hb b4
    have h5 := hb b5
    have h6 := hb b6
    have h7 := hb b7
    have h8 := hb b8
    have h9 := hb b9
    have h10 := hb b10
    have h11 := hb b11
    have h12 := hb b12
    have h13 := hb b13
    have h14 := hb b14
    refine ⟨b0.toNat * 16384 + b1.toNat * 8192 + b2.toNat * 4096 + b3.toNat * 2048 + b4.toNat * 1024 + b5.toNat * 512 + b6.toNat * 256 + b7.toNat * 128 + b8.toNat * 64 + b9.toNat * 32 + b10.toNat * 16 + b11.toNat * 8 + b12.toNat * 4 + b13.toNat * 2 + b14.toNat * 1, by omega, ?_⟩
    have key : ∀ (n : Nat) (b : Bool), n % 2 = b.toNat → (n % 2 == 1) = b := fun n b h => by rw [h]; cases b <;> rfl
    show [(b0.toNat * 16384 + b1.toNat * 8192 + b2.toNat * 4096 + b3.toNat * 2048 + b4.toNat * 1024 + b5.toNat * 512 + b6.toNat * 256 + b7.toNat * 128 + b8.toNat * 64 + b9.toNat * 32 + b10.toNat * 16 + b11.toNat * 8 + b12.toNat * 4 + b13.toNat * 2 + b14.toNat * 1) / 16384 % 2 == 1, (b0.toNat * 16384 + b1.toNat * 8192 + b2.toNat * 4096 + b3.toNat * 2048 + b4.toNat * 1024 + b5.toNat * 512 + b6.toNat * 256 + b7.toNat * 128 + b8.toNat * 64 + b9.toNat * 32 + b10.toNat * 16 + b11.toNat * 8 + b12.toNat * 4 + b13.toNat * 2 + b14.toNat * 1) / 8192 % 2 == 1, (b0.toNat * 16384 + b1.toNat * 8192 + b2.toNat * 4096 + b3.toNat * 2048 + b4.toNat * 1024 + b5.toNat * 512 + b6.toNat * 256 + b7.toNat * 128 + b8.toNat * 64 + b9.toNat * 32 + b10.toNat * 16 + b11.toNat * 8 + b12.toNat * 4 + b13.toNat * 2 + b14.toNat * 1) / 4096 % 2 == 1, (b0.toNat * 16384 + b1.toNat * 8192 + b2.toNat * 4096 + b3.toNat * 2048 + b4.toNat * 1024 + b5.toNat * 512 + b6.toNat * 256 + b7.toNat * 128 + b8.toNat * 64 + b9.toNat * 32 + b10.toNat * 16 + b11.toNat * 8 + b12.toNat * 4 + b13.toNat * 2 + b14.toNat * 1) / 2048 % 2 == 1, (b0.toNat * 16384 + b1.toNat * 8192 + b2.toNat * 4096 + b3.toNat * 2048 + b4.toNat * 1024 + b5.toNat * 512 + b6.toNat * 256 + b7.toNat * 128 + b8.toNat * 64 + b9.toNat * 32 + b10.toNat * 16 + b11.toNat * 8 + b12.toNat * 4 + b13.toNat * 2 + b14.toNat * 1) / 1024 % 2 == 1, (b0.toNat * 16384 + b1.toNat * 8192 + b2.toNat * 4096 + b3.toNat * 2048 + b4.toNat * 1024 + b5.toNat * 512 + b6.toNat * 256 + b7.toNat * 128 + b8.toNat * 64 + b9.toNat * 32 + b10.toNat * 16 + b11.toNat * 8 + b12.toNat * 4 + b13.toNat * 2 + b14.toNat * 1) / 512 % 2 == 1, (b0.toNat * 16384 + b1.toNat * 8192 + b2.toNat * 4096 + b3.toNat * 2048 + b4.toNat * 1024 + b5.toNat * 512 + b6.toNat * 256 + b7.toNat * 128 + b8.toNat * 64 + b9.toNat * 32 + b10.toNat * 16 + b11.toNat * 8 + b12.toNat * 4 + b13.toNat * 2 + b14.toNat * 1) / 256 % 2 == 1, (b0.toNat * 16384 + b1.toNat * 8192 + b2.toNat * 4096 + b3.toNat * 2048 + b4.toNat * 1024 + b5.toNat * 512 + b6.toNat * 256 + b7.toNat * 128 + b8.toNat * 64 + b9.toNat * 32 + b10.toNat * 16 + b11.toNat * 8 + b12.toNat * 4 + b13.toNat * 2 + b14.toNat * 1) / 128 % 2 == 1, (b0.toNat * 16384 + b1.toNat * 8192 + b2.toNat * 4096 + b3.toNat * 2048 + b4.toNat * 1024 + b5.toNat * 512 + b6.toNat * 256 + b7.toNat * 128 + b8.toNat * 64 + b9.toNat * 32 + b10.toNat * 16 + b11.toNat * 8 + b12.toNat * 4 + b13.toNat * 2 + b14.toNat * 1) / 64 % 2 == 1, (b0.toNat * 16384 + b1.toNat * 8192 + b2.toNat * 4096 + b3.toNat * 2048 + b4.toNat * 1024 + b5.toNat * 512 + b6.toNat * 256 + b7.toNat * 128 + b8.toNat * 64 + b9.toNat * 32 + b10.toNat * 16 + b11.toNat * 8 + b12.toNat * 4 + b13.toNat * 2 + b14.toNat * 1) / 32 % 2 == 1, (b0.toNat * 16384 + b1.toNat * 8192 + b2.toNat * 4096 + b3.toNat * 2048 + b4.toNat * 1024 + b5.toNat * 512 + b6.toNat * 256 + b7.toNat * 128 + b8.toNat * 64 + b9.toNat * 32 + b10.toNat * 16 + b11.toNat * 8 + b12.toNat * 4 + b13.toNat * 2 + b14.toNat * 1) / 16 % 2 == 1, (b0.toNat * 16384 + b1.toNat * 8192 + b2.toNat * 4096 + b3.toNat * 2048 + b4.toNat * 1024 + b5.toNat * 512 + b6.toNat * 256 + b7.toNat * 128 + b8.toNat * 64 + b9.toNat * 32 + b10.toNat * 16 + b11.toNat * 8 + b12.toNat * 4 + b13.toNat * 2 + b14.toNat * 1) / 8 % 2 == 1, (b0.toNat * 16384 + b1.toNat * 8192 + b2.toNat * 4096 + b3.toNat * 2048 + b4.toNat * 1024 + b5.toNat * 512 + b6.toNat * 256 + b7.toNat * 128 + b8.toNat * 64 + b9.toNat * 32 + b10.toNat * 16 + b11.toNat * 8 + b12.toNat * 4 + b13.toNat * 2 + b14.toNat * 1) / 4 % 2 == 1, (b0.toNat * 16384 + b1.toNat * 8192 + b2.toNat * 4096 + b3.toNat * 2048 + b4.toNat * 1024 + b5.toNat * 512 + b6.toNat * 256 + b7.toNat * 128 + b8.toNat * 64 + b9.toNat * 32 + b10.toNat * 16 + b11.toNat * 8 + b12.toNat * 4 + b13.toNat * 2 + b14.toNat * 1) / 2 % 2 == 1, (b0.toNat * 16384 + b1.toNat * 8192 + b2.toNat * 4096 + b3.toNat * 2048 + b4.toNat * 1024 + b5.toNat * 512 + b6.toNat * 256 + b7.toNat * 128 + b8.toNat * 64 + b9.toNat * 32 + b10.toNat * 16 + b11.toNat * 8 + b12.toNat * 4 + b13.toNat * 2 + b14.toNat * 1) / 1 % 2 == 1] = _
    rw [key _ b0 (by omega), key _ b1 (by omega), key _ b2 (by omega), key _ b3 (by omega), key _ b4 (by omega), key _ b5 (by omega), key _ b6 (by omega), key _ b7 (by omega), key _ b8 (by omega), key _ b9 (by omega), key _ b10 (by omega), key _ b11 (by omega), key _ b12 (by omega), key _ b13 (by omega), key _ b14 (by omega)]
theorem short_zero (B : List Bool) (h : B.length = 15) (h0 : crcN B = 0) : B = List.replicate 15 false := by
  obtain ⟨m, hm, rfl⟩ := bits_of B h
  have h1 := foldl_xor (sumBits m) (List.replicate 15 false) m m (by simp [sumBits_len]) hm hm
  rw [fold_own m hm, Nat.xor_self, Nat.zero_xor] at h1
  have h2 : List.zipWith (· ^^ ·) (sumBits m) (List.replicate 15 false) = sumBits m := by
    have := zip_false (sumBits m)
    rw [sumBits_len] at this
    rw [List.zipWith_comm_of_comm (fun a b => Bool.xor_comm a b)]
    exact this
  rw [h2] at h1
  have h3 := foldl_false_zero 15 m hm (h1.symm.trans h0)
  subst h3
  rfl
theorem burst_zero (k n : Nat) (B : List Bool) (h : B.length = 15) (h0 : crcN (List.replicate k false ++ B ++ List.replicate n false) = 0) : B = List.replicate 15 false := by
  rw [List.append_assoc, crcN_ahead] at h0
  unfold crcN at h0
  rw [List.foldl_append] at h0
  exact short_zero B h (foldl_false_zero n _ (foldl_lt B 0 (by decide)) h0)
end Go.Proofs.Ytflghgilcooiiaa
