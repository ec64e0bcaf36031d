/-
  The walk of FilterParts.
-/
import Derived.Test.YtflghgilcooiiaaDoorFilterH
namespace Go.Proofs.YtflghgilcooiiaaDoor
set_option linter.unusedVariables false
open Go.RowKit

/-- the end of a slice -/
theorem SlOf.suf {α : Type} {w : World} {en : α → List Value} {size b o cap : Nat} {xs : List α} (h : SlOf w en size (some ⟨b, o, none⟩) cap xs) (hen : ∀ x, (en x).length = size) (k : Nat) (hk : k ≤ xs.length) : SlOf w en size (some ⟨b, o + k * size, none⟩) (cap - k) (xs.drop k) := by
  have hle := h.le
  refine ⟨flatMap_length hen _, ?_, ?_, (fun e => by cases e), fun j hj => ?_⟩
  · rw [List.length_drop]; omega
  · have := h.max; omega
  · rw [flatMap_length hen, List.length_drop] at hj
    have hj2 : k * size + j < (xs.flatMap en).length := by
      rw [flatMap_length hen]
      have : (xs.length - k) * size + k * size = xs.length * size := by rw [← Nat.add_mul]; congr 1; omega
      omega
    obtain ⟨b', o', e, h1⟩ := Sl.at' h (k * size + j) hj2
    cases e
    refine ⟨b, o + k * size, rfl, ?_⟩
    rw [Nat.add_assoc, h1]
    have hsplit : xs.flatMap en = (xs.take k).flatMap en ++ (xs.drop k).flatMap en := by rw [← List.flatMap_append, List.take_append_drop]
    have hl : ((xs.take k).flatMap en).length = k * size := by rw [flatMap_length hen, List.length_take, Nat.min_eq_left hk]
    rw [hsplit, List.getElem?_append_right (by omega), hl, Nat.add_sub_cancel_left]

set_option maxHeartbeats 1000000 in
theorem pick_any (n : Int) (hn : -9223372036854775808 ≤ n ∧ n ≤ 9223372036854775807) (m : Nat) (hm : 0 < m) (hm2 : m < 9223372036854775807) (w : World) :
    Calls Tryd.prog 18 #[.int .i64 n, .int .i64 m] w fun e w' => ∃ k : Nat, k < m ∧ e = .returned (.int .i64 k) ∧ Below w.heap.size w w' := by
  have h1 : n.tmod (m : Int) < m := Int.tmod_lt_of_pos n (by omega)
  have h2 : -(m : Int) < n.tmod (m : Int) := by
    have := Int.tmod_lt_of_pos (-n) (show (0 : Int) < m by omega)
    rw [Int.neg_tmod] at this
    omega
  obtain ⟨r, hr⟩ : ∃ r, n.tmod (m : Int) = r := ⟨_, rfl⟩
  rw [hr] at h1 h2
  go_enter Tryd.func18, Tryd.ntmps18
  by_cases hneg : r < 0
  · go_wp2
    go_ret
    obtain ⟨k, hk⟩ := Int.eq_ofNat_of_zero_le (show 0 ≤ r + (m : Int) by omega)
    exact ⟨k, by omega, by rw [hk]; rfl, Below.refl _ _⟩
  · go_wp2
    go_ret
    obtain ⟨k, hk⟩ := Int.eq_ofNat_of_zero_le (show 0 ≤ r by omega)
    exact ⟨k, by omega, by rw [hk]; rfl, Below.refl _ _⟩

theorem takesN_parts (l : List RuleD) (wide : Bool) (id k : Nat) (h0 : 0 < k) (h1 : k < l.length) : takesN l wide id = (takesN (l.take k) wide id || takesN (l.drop k) wide id) := by
  unfold takesN
  have e : l.any (fun r => takesR r wide id) = ((l.take k).any (fun r => takesR r wide id) || (l.drop k).any (fun r => takesR r wide id)) := by
    rw [← List.any_append, List.take_append_drop]
  rw [e, List.length_take, List.length_drop]
  have z0 : (l.length == 0) = false := by rw [beq_eq_false_iff_ne]; omega
  have z1 : (min k l.length == 0) = false := by rw [beq_eq_false_iff_ne]; omega
  have z2 : (l.length - k == 0) = false := by rw [beq_eq_false_iff_ne]; omega
  rw [z0, z1, z2]
  simp

set_option maxRecDepth 100000 in
set_option maxHeartbeats 2000000 in
theorem filterParts_walk (l : List RuleD) (hl : ∀ r ∈ l, okRule r) (a : Option Addr) (cap : Nat) (n : Int) (hn : -9223372036854775808 ≤ n ∧ n ≤ 9223372036854775807) (id : Nat) (hid : id < 4294967296) (wide : Bool) (d : Value) (w : World) (hno : NoneAt w) (hs : SlR w a cap l) (hr : l.length * 12 ≤ 140737488351232) :
    Calls Tryd.prog 6 #[.slice a l.length cap, .int .i64 n, .agg #[.int .u32 id, .bool wide, d]] w fun e w' => e = .returned (.bool true) ∧ Below w.heap.size w w' := by
  have hp := hno.pos
  have h1 := hs.len
  have HL := Lib.hid hl
  clear hl
  have e5 : bits BinOp.xor IntKind.u32 (id : Int) 5 = ((id ^^^ 5 : Nat) : Int) := u32_xor_nat id 5 hid (by decide)
  have hx : id ^^^ 5 < 4294967296 := Nat.xor_lt_two_pow (n := 32) hid (by decide)
  have hal : ∀ r ∈ [(⟨wide, id ^^^ 5, 0⟩ : RuleD)], okRule r := by simp [okRule]; exact hx
  have va : takesN [(⟨wide, id ^^^ 5, 0⟩ : RuleD)] wide id = true := by simp [takesN, takesR]
  have E5 := Lib.hid e5
  have HAL := Lib.hid hal
  have VA := Lib.hid va
  clear e5 hal va
  generalize id ^^^ 5 = cd at *
  go_enter Tryd.func6, Tryd.ntmps6
  go_wp2_with fail
  obtain ⟨w1, hw1⟩ : ∃ x, x = w.alloc (.cells #[.int .u32 id, .bool wide, d] 32) := ⟨_, rfl⟩
  have hb1 : Below w.heap.size w w1 := by rw [hw1]; exact (Below.refl _ _).alloc (Nat.le_refl _) _
  have hc0 : w1.cell? ⟨w.heap.size, 0, none⟩ = some (.int .u32 id) := by rw [hw1]; go_simp
  have hc1 : w1.cell? ⟨w.heap.size, 1, none⟩ = some (.bool wide) := by rw [hw1]; go_simp
  have hc2 : w1.cell? ⟨w.heap.size, 2, none⟩ = some d := by rw [hw1]; go_simp
  have hz1 : w1.heap.size = w.heap.size + 1 := by rw [hw1]; simp
  rw [← hw1]
  clear hw1
  refine (pick_any n hn (l.length + 1) (by omega) (by omega) _).mono ?_
  rintro e w2 ⟨k, hk, rfl, hb2⟩
  have hb3 := bstep hb1 hb2 (Nat.le_refl _)
  have hd0 := cell_keep' hc0 hb2
  have hd1 := cell_keep' hc1 hb2
  have hd2 := cell_keep' hc2 hb2
  clear hc0 hc1 hc2 hb1 hb2
  go_wp2_with fail
  rw [E5.out]
  have hb4 := hb3.alloc hb3.size (.cells #[.bool wide, .int .u32 cd, .int .u32 (0 : Nat)] 38)
  have hs4 : SlR (w2.alloc (.cells #[.bool wide, .int .u32 cd, .int .u32 (0 : Nat)] 38)) (some ⟨w2.heap.size, 0, none⟩) 1 [⟨wide, cd, 0⟩] := SlOf.lit w2 enRule 3 (fun _ => rfl) _ _ _ 1 rfl rfl (by decide)
  have hc0 : (w2.alloc (.cells #[.bool wide, .int .u32 cd, .int .u32 (0 : Nat)] 38)).cell? ⟨w.heap.size, 0, none⟩ = some (.int .u32 id) := cell_keep' hd0 ((Below.refl _ _).alloc (Nat.le_refl _) _)
  have hc1 : (w2.alloc (.cells #[.bool wide, .int .u32 cd, .int .u32 (0 : Nat)] 38)).cell? ⟨w.heap.size, 1, none⟩ = some (.bool wide) := cell_keep' hd1 ((Below.refl _ _).alloc (Nat.le_refl _) _)
  have hc2 : (w2.alloc (.cells #[.bool wide, .int .u32 cd, .int .u32 (0 : Nat)] 38)).cell? ⟨w.heap.size, 2, none⟩ = some d := cell_keep' hd2 ((Below.refl _ _).alloc (Nat.le_refl _) _)
  change Calls _ _ _ (w2.alloc (.cells #[.bool wide, .int .u32 cd, .int .u32 (0 : Nat)] 38)) _
  clear hd0 hd1 hd2 hb3
  generalize w2.alloc (.cells #[.bool wide, .int .u32 cd, .int .u32 (0 : Nat)] 38) = w3 at *
  refine (works_any _ (hno.keep hb4 hp)).mono ?_
  rintro e w4 ⟨rfl, hb5⟩
  have hb6 := bstep hb4 hb5 (Nat.le_refl _)
  have hd0 := cell_keep' hc0 hb5
  have hd1 := cell_keep' hc1 hb5
  have hd2 := cell_keep' hc2 hb5
  have hs5 := hs4.keep hb5 (Nat.le_refl _)
  clear hc0 hc1 hc2 hb4 hb5 hs4
  go_wp2_with fail
  refine (takes_any _ HAL.out 1 rfl _ _ id hid wide d _ hs5).mono ?_
  rintro e w5 ⟨rfl, hb5⟩
  rw [VA.out]
  have hb7 := bstep hb6 hb5 (Nat.le_refl _)
  have hc0 := cell_keep' hd0 hb5
  have hc1 := cell_keep' hd1 hb5
  have hc2 := cell_keep' hd2 hb5
  clear hd0 hd1 hd2 hb6 hb5 hs5
  go_wp2_with fail
  refine (takes_any [] (fun _ h => by cases h) 0 rfl _ _ id hid wide d _ (SlOf.nil _ _ _)).mono ?_
  rintro e w6 ⟨rfl, hb5⟩
  rw [show takesN [] wide id = true from rfl]
  have hb8 := bstep hb7 hb5 (Nat.le_refl _)
  have hd0 := cell_keep' hc0 hb5
  have hd1 := cell_keep' hc1 hb5
  have hd2 := cell_keep' hc2 hb5
  clear hc0 hc1 hc2 hb7 hb5
  by_cases hk0 : k = 0
  · subst hk0
    go_wp2_with fail
    go_ret
    exact ⟨rfl, hb8⟩
  · have q0 : ((k : Int) == 0) = false := by rw [beq_eq_false_iff_ne]; omega
    by_cases hkl : k = l.length
    · have q1 : ((k : Int) == (l.length : Int)) = true := by rw [beq_iff_eq]; omega
      go_wp2_with fail
      all_goals
        go_ret
        exact ⟨rfl, hb8⟩
    · have q1 : ((k : Int) == (l.length : Int)) = false := by rw [beq_eq_false_iff_ne]; omega
      obtain ⟨b, o, rfl, hba, _⟩ := Sl.addr (hs.keep hb8 (Nat.le_refl _)) (by omega) (by omega)
      have hsA : SlR w (some ⟨b, o, none⟩) cap (l.take k) := SlOf.pre (ys := l.drop k) (by rw [List.take_append_drop]; exact hs) (fun _ => rfl)
      have hsB : SlR w (some ⟨b, o + k * 3, none⟩) (cap - k) (l.drop k) := SlOf.suf hs (fun _ => rfl) k (by omega)
      have HLA := Lib.hid (fun r (hr : r ∈ l.take k) => HL.out r (List.mem_of_mem_take hr))
      have HLB := Lib.hid (fun r (hr : r ∈ l.drop k) => HL.out r (List.mem_of_mem_drop hr))
      have HK : Hid (k = (l.take k).length) := Lib.hid (by rw [List.length_take]; omega)
      have HK2 : Hid (l.length - k = (l.drop k).length) := Lib.hid (by rw [List.length_drop])
      have hT := takesN_parts l wide id k (by omega) (by omega)
      obtain ⟨tA, htA⟩ : ∃ t, takesN (l.take k) wide id = t := ⟨_, rfl⟩
      obtain ⟨tB, htB⟩ : ∃ t, takesN (l.drop k) wide id = t := ⟨_, rfl⟩
      rw [htA, htB] at hT
      have HA := Lib.hid htA
      have HB := Lib.hid htB
      have HT := Lib.hid hT
      clear htA htB hT
      have hk1 : k ≤ cap := by omega
      have hk2 : k ≤ l.length := by omega
      have hk3 : ¬ cap = k := by omega
      go_wp2_with fail
      cases tA
      · cases tB
        all_goals
          refine wp_region_held_drew (S := (fun (w' : World) => Below w.heap.size w w' ∧ w'.cell? ⟨w.heap.size, 0, none⟩ = some (.int .u32 id) ∧ w'.cell? ⟨w.heap.size, 1, none⟩ = some (.bool wide) ∧ w'.cell? ⟨w.heap.size, 2, none⟩ = some d)) (by kernel_rfl) ⟨hb8.drew, hd0, hd1, hd2⟩ (fun hHeld => ?_)
          refine held_take 0 (v := ?_) rfl (by kernel_rfl) (by kernel_rfl) (by kernel_rfl) (fun _ _ _ h => h) (by assumption) ?_ ?_
          rotate_left
          · first | (refine Or.inr ⟨?_, ?_⟩ <;> rfl) | (refine Or.inl ⟨by rfl, ?_⟩; intro w hSw; (try dsimp only at hSw); first | (go_simp; done) | (go_simp; with_reducible rfl) | (go_simp; rw [if_pos hk1]) | (go_simp; rw [if_pos hk2, if_neg hk3]))
          try simp only [Act.put, List.setIfInBounds_toArray, List.set_cons_zero, List.set_cons_succ]
          refine held_take 1 (v := ?_) rfl (by kernel_rfl) (by kernel_rfl) (by kernel_rfl) (fun _ _ _ h => h) (by assumption) ?_ ?_
          rotate_left
          · first | (refine Or.inr ⟨?_, ?_⟩ <;> rfl) | (refine Or.inl ⟨by rfl, ?_⟩; intro w hSw; (try dsimp only at hSw); first | (go_simp; done) | (go_simp; with_reducible rfl) | (go_simp; rw [if_pos hk1]) | (go_simp; rw [if_pos hk2, if_neg hk3]))
          try simp only [Act.put, List.setIfInBounds_toArray, List.set_cons_zero, List.set_cons_succ]
          refine held_take 3 (v := ?_) rfl (by kernel_rfl) (by kernel_rfl) (by kernel_rfl) (fun _ _ _ h => h) (by assumption) ?_ ?_
          rotate_left
          · first | (refine Or.inr ⟨?_, ?_⟩ <;> rfl) | (refine Or.inl ⟨by rfl, ?_⟩; intro w hSw; (try dsimp only at hSw); first | (go_simp; done) | (go_simp; with_reducible rfl) | (go_simp; rw [if_pos hk1]) | (go_simp; rw [if_pos hk2, if_neg hk3]))
          try simp only [Act.put, List.setIfInBounds_toArray, List.set_cons_zero, List.set_cons_succ]
          refine held_take 4 (v := ?_) rfl (by kernel_rfl) (by kernel_rfl) (by kernel_rfl) (fun _ _ _ h => h) (by assumption) ?_ ?_
          rotate_left
          · first | (refine Or.inr ⟨?_, ?_⟩ <;> rfl) | (refine Or.inl ⟨by rfl, ?_⟩; intro w hSw; (try dsimp only at hSw); first | (go_simp; done) | (go_simp; with_reducible rfl) | (go_simp; rw [if_pos hk1]) | (go_simp; rw [if_pos hk2, if_neg hk3]))
          try simp only [Act.put, List.setIfInBounds_toArray, List.set_cons_zero, List.set_cons_succ]
          refine held_take 5 (v := ?_) rfl (by kernel_rfl) (by kernel_rfl) (by kernel_rfl) (fun _ _ _ h => h) (by assumption) ?_ ?_
          rotate_left
          · first | (refine Or.inr ⟨?_, ?_⟩ <;> rfl) | (refine Or.inl ⟨by rfl, ?_⟩; intro w hSw; (try dsimp only at hSw); first | (go_simp; done) | (go_simp; with_reducible rfl) | (go_simp; rw [if_pos hk1]) | (go_simp; rw [if_pos hk2, if_neg hk3]))
          try simp only [Act.put, List.setIfInBounds_toArray, List.set_cons_zero, List.set_cons_succ]
          refine held_take 6 (v := ?_) rfl (by kernel_rfl) (by kernel_rfl) (by kernel_rfl) (fun _ _ _ h => h) (by assumption) ?_ ?_
          rotate_left
          · first | (refine Or.inr ⟨?_, ?_⟩ <;> rfl) | (refine Or.inl ⟨by rfl, ?_⟩; intro w hSw; (try dsimp only at hSw); first | (go_simp; done) | (go_simp; with_reducible rfl) | (go_simp; rw [if_pos hk1]) | (go_simp; rw [if_pos hk2, if_neg hk3]))
          try simp only [Act.put, List.setIfInBounds_toArray, List.set_cons_zero, List.set_cons_succ]
          refine held_call 2 rfl (by kernel_rfl) (fun K hK => ?_)
          go_simp
          with_reducible refine (takes_any l HL.out _ rfl _ _ id hid wide d _ (SlOf.keep hs hHeld.1 (Nat.le_refl _))).mono ?_
          rintro e w' ⟨rfl, hb'⟩
          rw [HT.out]
          refine hK.out _ _ ?_ (fun hHeld => ?_)
          · exact ⟨bstep hHeld.1 hb' (Nat.le_refl _), cell_keep' hHeld.2.1 hb', cell_keep' hHeld.2.2.1 hb', cell_keep' hHeld.2.2.2 hb'⟩
          clear hK K
          try simp only [Act.put, List.setIfInBounds_toArray, List.set_cons_zero, List.set_cons_succ]
          refine held_call 7 rfl (by kernel_rfl) (fun K hK => ?_)
          go_simp
          with_reducible refine (takes_any (l.take k) HLA.out k HK.out _ _ id hid wide d _ (SlOf.keep hsA hHeld.1 (Nat.le_refl _))).mono ?_
          rintro e w' ⟨rfl, hb'⟩
          rw [HA.out]
          refine hK.out _ _ ?_ (fun hHeld => ?_)
          · exact ⟨bstep hHeld.1 hb' (Nat.le_refl _), cell_keep' hHeld.2.1 hb', cell_keep' hHeld.2.2.1 hb', cell_keep' hHeld.2.2.2 hb'⟩
          clear hK K
          try simp only [Act.put, List.setIfInBounds_toArray, List.set_cons_zero, List.set_cons_succ]
          refine held_take 8 (v := ?_) rfl (by kernel_rfl) (by kernel_rfl) (by kernel_rfl) (fun _ _ _ h => h) (by assumption) ?_ ?_
          rotate_left
          · first | (refine Or.inr ⟨?_, ?_⟩ <;> rfl) | (refine Or.inl ⟨by rfl, ?_⟩; intro w hSw; (try dsimp only at hSw); first | (go_simp; done) | (go_simp; with_reducible rfl) | (go_simp; rw [if_pos hk1]) | (go_simp; rw [if_pos hk2, if_neg hk3]))
          try simp only [Act.put, List.setIfInBounds_toArray, List.set_cons_zero, List.set_cons_succ]
          refine held_take 9 (v := ?_) rfl (by kernel_rfl) (by kernel_rfl) (by kernel_rfl) (fun _ _ _ h => h) (by assumption) ?_ ?_
          rotate_left
          · first | (refine Or.inr ⟨?_, ?_⟩ <;> rfl) | (refine Or.inl ⟨by rfl, ?_⟩; intro w hSw; (try dsimp only at hSw); first | (go_simp; done) | (go_simp; with_reducible rfl) | (go_simp; rw [if_pos hk1]) | (go_simp; rw [if_pos hk2, if_neg hk3]))
          try simp only [Act.put, List.setIfInBounds_toArray, List.set_cons_zero, List.set_cons_succ]
          refine held_take 10 (v := ?_) rfl (by kernel_rfl) (by kernel_rfl) (by kernel_rfl) (fun _ _ _ h => h) (by assumption) ?_ ?_
          rotate_left
          · first | (refine Or.inr ⟨?_, ?_⟩ <;> rfl) | (refine Or.inl ⟨by rfl, ?_⟩; intro w hSw; (try dsimp only at hSw); first | (go_simp; done) | (go_simp; with_reducible rfl) | (go_simp; rw [if_pos hk1]) | (go_simp; rw [if_pos hk2, if_neg hk3]))
          try simp only [Act.put, List.setIfInBounds_toArray, List.set_cons_zero, List.set_cons_succ]
          refine held_take 11 (v := ?_) rfl (by kernel_rfl) (by kernel_rfl) (by kernel_rfl) (fun _ _ _ h => h) (by assumption) ?_ ?_
          rotate_left
          · first | (refine Or.inr ⟨?_, ?_⟩ <;> rfl) | (refine Or.inl ⟨by rfl, ?_⟩; intro w hSw; (try dsimp only at hSw); first | (go_simp; done) | (go_simp; with_reducible rfl) | (go_simp; rw [if_pos hk1]) | (go_simp; rw [if_pos hk2, if_neg hk3]))
          try simp only [Act.put, List.setIfInBounds_toArray, List.set_cons_zero, List.set_cons_succ]
          refine held_take 12 (v := ?_) rfl (by kernel_rfl) (by kernel_rfl) (by kernel_rfl) (fun _ _ _ h => h) (by assumption) ?_ ?_
          rotate_left
          · first | (refine Or.inr ⟨?_, ?_⟩ <;> rfl) | (refine Or.inl ⟨by rfl, ?_⟩; intro w hSw; (try dsimp only at hSw); first | (go_simp; done) | (go_simp; with_reducible rfl) | (go_simp; rw [if_pos hk1]) | (go_simp; rw [if_pos hk2, if_neg hk3]))
          try simp only [Act.put, List.setIfInBounds_toArray, List.set_cons_zero, List.set_cons_succ]
          refine held_call 13 rfl (by kernel_rfl) (fun K hK => ?_)
          go_simp
          with_reducible refine (takes_any (l.drop k) HLB.out _ HK2.out _ _ id hid wide d _ (SlOf.keep hsB hHeld.1 (Nat.le_refl _))).mono ?_
          rintro e w' ⟨rfl, hb'⟩
          rw [HB.out]
          refine hK.out _ _ ?_ (fun hHeld => ?_)
          · exact ⟨bstep hHeld.1 hb' (Nat.le_refl _), cell_keep' hHeld.2.1 hb', cell_keep' hHeld.2.2.1 hb', cell_keep' hHeld.2.2.2 hb'⟩
          clear hK K
          try simp only [Act.put, List.setIfInBounds_toArray, List.set_cons_zero, List.set_cons_succ]
          refine held_take 14 (v := ?_) rfl (by kernel_rfl) (by kernel_rfl) (by kernel_rfl) (fun _ _ _ h => h) (by assumption) ?_ ?_
          rotate_left
          · first | (refine Or.inr ⟨?_, ?_⟩ <;> rfl) | (refine Or.inl ⟨by rfl, ?_⟩; intro w hSw; (try dsimp only at hSw); first | (go_simp; done) | (go_simp; with_reducible rfl) | (go_simp; rw [if_pos hk1]) | (go_simp; rw [if_pos hk2, if_neg hk3]))
          try simp only [Act.put, List.setIfInBounds_toArray, List.set_cons_zero, List.set_cons_succ]
          refine held_take 15 (v := ?_) rfl (by kernel_rfl) (by kernel_rfl) (by kernel_rfl) (fun _ _ _ h => h) (by assumption) ?_ ?_
          rotate_left
          · first | (refine Or.inr ⟨?_, ?_⟩ <;> rfl) | (refine Or.inl ⟨by rfl, ?_⟩; intro w hSw; (try dsimp only at hSw); first | (go_simp; done) | (go_simp; with_reducible rfl) | (go_simp; rw [if_pos hk1]) | (go_simp; rw [if_pos hk2, if_neg hk3]))
          try simp only [Act.put, List.setIfInBounds_toArray, List.set_cons_zero, List.set_cons_succ]
          refine held_take 16 (v := ?_) rfl (by kernel_rfl) (by kernel_rfl) (by kernel_rfl) (fun _ _ _ h => h) (by assumption) ?_ ?_
          rotate_left
          · first | (refine Or.inr ⟨?_, ?_⟩ <;> rfl) | (refine Or.inl ⟨by rfl, ?_⟩; intro w hSw; (try dsimp only at hSw); first | (go_simp; done) | (go_simp; with_reducible rfl) | (go_simp; rw [if_pos hk1]) | (go_simp; rw [if_pos hk2, if_neg hk3]))
          try simp only [Act.put, List.setIfInBounds_toArray, List.set_cons_zero, List.set_cons_succ]
          refine wpAnyH_done (by kernel_rfl) ?_ _
          go_wp2_with fail
          go_ret
          exact ⟨rfl, hHeld.1⟩
      · have HT1 : Hid (takesN l wide id = true) := Lib.hid (by rw [HT.out]; rfl)
        refine wp_region_held_drew (S := (fun (w' : World) => Below w.heap.size w w' ∧ w'.cell? ⟨w.heap.size, 0, none⟩ = some (.int .u32 id) ∧ w'.cell? ⟨w.heap.size, 1, none⟩ = some (.bool wide) ∧ w'.cell? ⟨w.heap.size, 2, none⟩ = some d)) (by kernel_rfl) ⟨hb8.drew, hd0, hd1, hd2⟩ (fun hHeld => ?_)
        refine held_take 0 (v := ?_) rfl (by kernel_rfl) (by kernel_rfl) (by kernel_rfl) (fun _ _ _ h => h) (by assumption) ?_ ?_
        rotate_left
        · first | (refine Or.inr ⟨?_, ?_⟩ <;> rfl) | (refine Or.inl ⟨by rfl, ?_⟩; intro w hSw; (try dsimp only at hSw); first | (go_simp; done) | (go_simp; with_reducible rfl) | (go_simp; rw [if_pos hk1]) | (go_simp; rw [if_pos hk2, if_neg hk3]))
        try simp only [Act.put, List.setIfInBounds_toArray, List.set_cons_zero, List.set_cons_succ]
        refine held_take 1 (v := ?_) rfl (by kernel_rfl) (by kernel_rfl) (by kernel_rfl) (fun _ _ _ h => h) (by assumption) ?_ ?_
        rotate_left
        · first | (refine Or.inr ⟨?_, ?_⟩ <;> rfl) | (refine Or.inl ⟨by rfl, ?_⟩; intro w hSw; (try dsimp only at hSw); first | (go_simp; done) | (go_simp; with_reducible rfl) | (go_simp; rw [if_pos hk1]) | (go_simp; rw [if_pos hk2, if_neg hk3]))
        try simp only [Act.put, List.setIfInBounds_toArray, List.set_cons_zero, List.set_cons_succ]
        refine held_take 3 (v := ?_) rfl (by kernel_rfl) (by kernel_rfl) (by kernel_rfl) (fun _ _ _ h => h) (by assumption) ?_ ?_
        rotate_left
        · first | (refine Or.inr ⟨?_, ?_⟩ <;> rfl) | (refine Or.inl ⟨by rfl, ?_⟩; intro w hSw; (try dsimp only at hSw); first | (go_simp; done) | (go_simp; with_reducible rfl) | (go_simp; rw [if_pos hk1]) | (go_simp; rw [if_pos hk2, if_neg hk3]))
        try simp only [Act.put, List.setIfInBounds_toArray, List.set_cons_zero, List.set_cons_succ]
        refine held_take 4 (v := ?_) rfl (by kernel_rfl) (by kernel_rfl) (by kernel_rfl) (fun _ _ _ h => h) (by assumption) ?_ ?_
        rotate_left
        · first | (refine Or.inr ⟨?_, ?_⟩ <;> rfl) | (refine Or.inl ⟨by rfl, ?_⟩; intro w hSw; (try dsimp only at hSw); first | (go_simp; done) | (go_simp; with_reducible rfl) | (go_simp; rw [if_pos hk1]) | (go_simp; rw [if_pos hk2, if_neg hk3]))
        try simp only [Act.put, List.setIfInBounds_toArray, List.set_cons_zero, List.set_cons_succ]
        refine held_take 5 (v := ?_) rfl (by kernel_rfl) (by kernel_rfl) (by kernel_rfl) (fun _ _ _ h => h) (by assumption) ?_ ?_
        rotate_left
        · first | (refine Or.inr ⟨?_, ?_⟩ <;> rfl) | (refine Or.inl ⟨by rfl, ?_⟩; intro w hSw; (try dsimp only at hSw); first | (go_simp; done) | (go_simp; with_reducible rfl) | (go_simp; rw [if_pos hk1]) | (go_simp; rw [if_pos hk2, if_neg hk3]))
        try simp only [Act.put, List.setIfInBounds_toArray, List.set_cons_zero, List.set_cons_succ]
        refine held_take 6 (v := ?_) rfl (by kernel_rfl) (by kernel_rfl) (by kernel_rfl) (fun _ _ _ h => h) (by assumption) ?_ ?_
        rotate_left
        · first | (refine Or.inr ⟨?_, ?_⟩ <;> rfl) | (refine Or.inl ⟨by rfl, ?_⟩; intro w hSw; (try dsimp only at hSw); first | (go_simp; done) | (go_simp; with_reducible rfl) | (go_simp; rw [if_pos hk1]) | (go_simp; rw [if_pos hk2, if_neg hk3]))
        try simp only [Act.put, List.setIfInBounds_toArray, List.set_cons_zero, List.set_cons_succ]
        refine held_call 2 rfl (by kernel_rfl) (fun K hK => ?_)
        go_simp
        with_reducible refine (takes_any l HL.out _ rfl _ _ id hid wide d _ (SlOf.keep hs hHeld.1 (Nat.le_refl _))).mono ?_
        rintro e w' ⟨rfl, hb'⟩
        rw [HT1.out]
        refine hK.out _ _ ?_ (fun hHeld => ?_)
        · exact ⟨bstep hHeld.1 hb' (Nat.le_refl _), cell_keep' hHeld.2.1 hb', cell_keep' hHeld.2.2.1 hb', cell_keep' hHeld.2.2.2 hb'⟩
        clear hK K
        try simp only [Act.put, List.setIfInBounds_toArray, List.set_cons_zero, List.set_cons_succ]
        refine held_call 7 rfl (by kernel_rfl) (fun K hK => ?_)
        go_simp
        with_reducible refine (takes_any (l.take k) HLA.out k HK.out _ _ id hid wide d _ (SlOf.keep hsA hHeld.1 (Nat.le_refl _))).mono ?_
        rintro e w' ⟨rfl, hb'⟩
        rw [HA.out]
        refine hK.out _ _ ?_ (fun hHeld => ?_)
        · exact ⟨bstep hHeld.1 hb' (Nat.le_refl _), cell_keep' hHeld.2.1 hb', cell_keep' hHeld.2.2.1 hb', cell_keep' hHeld.2.2.2 hb'⟩
        clear hK K
        try simp only [Act.put, List.setIfInBounds_toArray, List.set_cons_zero, List.set_cons_succ]
        refine held_take 8 (v := ?_) rfl (by kernel_rfl) (by kernel_rfl) (by kernel_rfl) (fun _ _ _ h => h) (by assumption) ?_ ?_
        rotate_left
        · first | (refine Or.inr ⟨?_, ?_⟩ <;> rfl) | (refine Or.inl ⟨by rfl, ?_⟩; intro w hSw; (try dsimp only at hSw); first | (go_simp; done) | (go_simp; with_reducible rfl) | (go_simp; rw [if_pos hk1]) | (go_simp; rw [if_pos hk2, if_neg hk3]))
        try simp only [Act.put, List.setIfInBounds_toArray, List.set_cons_zero, List.set_cons_succ]
        refine held_take 9 (v := ?_) rfl (by kernel_rfl) (by kernel_rfl) (by kernel_rfl) (fun _ _ _ h => h) (by assumption) ?_ ?_
        rotate_left
        · first | (refine Or.inr ⟨?_, ?_⟩ <;> rfl) | (refine Or.inl ⟨by rfl, ?_⟩; intro w hSw; (try dsimp only at hSw); first | (go_simp; done) | (go_simp; with_reducible rfl) | (go_simp; rw [if_pos hk1]) | (go_simp; rw [if_pos hk2, if_neg hk3]))
        try simp only [Act.put, List.setIfInBounds_toArray, List.set_cons_zero, List.set_cons_succ]
        refine held_take 10 (v := ?_) rfl (by kernel_rfl) (by kernel_rfl) (by kernel_rfl) (fun _ _ _ h => h) (by assumption) ?_ ?_
        rotate_left
        · first | (refine Or.inr ⟨?_, ?_⟩ <;> rfl) | (refine Or.inl ⟨by rfl, ?_⟩; intro w hSw; (try dsimp only at hSw); first | (go_simp; done) | (go_simp; with_reducible rfl) | (go_simp; rw [if_pos hk1]) | (go_simp; rw [if_pos hk2, if_neg hk3]))
        try simp only [Act.put, List.setIfInBounds_toArray, List.set_cons_zero, List.set_cons_succ]
        refine held_take 11 (v := ?_) rfl (by kernel_rfl) (by kernel_rfl) (by kernel_rfl) (fun _ _ _ h => h) (by assumption) ?_ ?_
        rotate_left
        · first | (refine Or.inr ⟨?_, ?_⟩ <;> rfl) | (refine Or.inl ⟨by rfl, ?_⟩; intro w hSw; (try dsimp only at hSw); first | (go_simp; done) | (go_simp; with_reducible rfl) | (go_simp; rw [if_pos hk1]) | (go_simp; rw [if_pos hk2, if_neg hk3]))
        try simp only [Act.put, List.setIfInBounds_toArray, List.set_cons_zero, List.set_cons_succ]
        refine held_take 12 (v := ?_) rfl (by kernel_rfl) (by kernel_rfl) (by kernel_rfl) (fun _ _ _ h => h) (by assumption) ?_ ?_
        rotate_left
        · first | (refine Or.inr ⟨?_, ?_⟩ <;> rfl) | (refine Or.inl ⟨by rfl, ?_⟩; intro w hSw; (try dsimp only at hSw); first | (go_simp; done) | (go_simp; with_reducible rfl) | (go_simp; rw [if_pos hk1]) | (go_simp; rw [if_pos hk2, if_neg hk3]))
        try simp only [Act.put, List.setIfInBounds_toArray, List.set_cons_zero, List.set_cons_succ]
        refine held_take 13 (v := ?_) rfl (by kernel_rfl) (by kernel_rfl) (by kernel_rfl) (fun _ _ _ h => h) (by assumption) ?_ ?_
        rotate_left
        · first | (refine Or.inr ⟨?_, ?_⟩ <;> rfl) | (refine Or.inl ⟨by rfl, ?_⟩; intro w hSw; (try dsimp only at hSw); first | (go_simp; done) | (go_simp; with_reducible rfl) | (go_simp; rw [if_pos hk1]) | (go_simp; rw [if_pos hk2, if_neg hk3]))
        try simp only [Act.put, List.setIfInBounds_toArray, List.set_cons_zero, List.set_cons_succ]
        refine held_take 14 (v := ?_) rfl (by kernel_rfl) (by kernel_rfl) (by kernel_rfl) (fun _ _ _ h => h) (by assumption) ?_ ?_
        rotate_left
        · first | (refine Or.inr ⟨?_, ?_⟩ <;> rfl) | (refine Or.inl ⟨by rfl, ?_⟩; intro w hSw; (try dsimp only at hSw); first | (go_simp; done) | (go_simp; with_reducible rfl) | (go_simp; rw [if_pos hk1]) | (go_simp; rw [if_pos hk2, if_neg hk3]))
        try simp only [Act.put, List.setIfInBounds_toArray, List.set_cons_zero, List.set_cons_succ]
        refine held_take 15 (v := ?_) rfl (by kernel_rfl) (by kernel_rfl) (by kernel_rfl) (fun _ _ _ h => h) (by assumption) ?_ ?_
        rotate_left
        · first | (refine Or.inr ⟨?_, ?_⟩ <;> rfl) | (refine Or.inl ⟨by rfl, ?_⟩; intro w hSw; (try dsimp only at hSw); first | (go_simp; done) | (go_simp; with_reducible rfl) | (go_simp; rw [if_pos hk1]) | (go_simp; rw [if_pos hk2, if_neg hk3]))
        try simp only [Act.put, List.setIfInBounds_toArray, List.set_cons_zero, List.set_cons_succ]
        refine held_take 16 (v := ?_) rfl (by kernel_rfl) (by kernel_rfl) (by kernel_rfl) (fun _ _ _ h => h) (by assumption) ?_ ?_
        rotate_left
        · first | (refine Or.inr ⟨?_, ?_⟩ <;> rfl) | (refine Or.inl ⟨by rfl, ?_⟩; intro w hSw; (try dsimp only at hSw); first | (go_simp; done) | (go_simp; with_reducible rfl) | (go_simp; rw [if_pos hk1]) | (go_simp; rw [if_pos hk2, if_neg hk3]))
        try simp only [Act.put, List.setIfInBounds_toArray, List.set_cons_zero, List.set_cons_succ]
        refine wpAnyH_done (by kernel_rfl) ?_ _
        go_wp2_with fail
        go_ret
        exact ⟨rfl, hHeld.1⟩
end Go.Proofs.YtflghgilcooiiaaDoor
