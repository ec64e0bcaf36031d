/-
  The walk of knownSaid (the chapter's examples).
-/
import Derived.Test.YtflghgilcooiiaaDoorFilterT
import Derived.Test.YtflghgilcooiiaaDoorFilterP
namespace Go.Proofs.YtflghgilcooiiaaDoor
set_option linter.unusedVariables false
open Go.RowKit

def askR (j : Nat) : List RuleD := match j with
  | 0 => [⟨false, 256, 1792⟩, ⟨false, 291, 2047⟩]
  | 1 => [⟨false, 291, 2047⟩, ⟨false, 256, 1792⟩, ⟨false, 511, 1792⟩]
  | 2 => [⟨false, 0, 2047⟩, ⟨false, 0, 4294967295⟩]
  | 3 => [⟨false, 2048, 4095⟩, ⟨true, 5, 0⟩]
  | _ => [⟨false, 2048, 4095⟩, ⟨false, 2048, 2048⟩]
def wantR : List RuleD := [⟨false, 256, 1792⟩, ⟨false, 256, 1792⟩, ⟨false, 0, 2047⟩, ⟨true, 5, 0⟩, ⟨false, 2048, 4095⟩]
theorem ask_ok (j : Nat) : ∀ r ∈ askR j, okRule r := by
  unfold askR
  split <;> simp [okRule]
theorem ask_less (j : Nat) (h : j < 5) : lessN (askR j) = (wantR.drop j).take 1 := by
  match j, h with
  | 0, _ => decide
  | 1, _ => decide
  | 2, _ => decide
  | 3, _ => decide
  | 4, _ => decide

set_option maxRecDepth 100000 in
set_option maxHeartbeats 2000000 in
theorem knownSaid_any (w : World) (hno : NoneAt w) :
    Calls Tryd.prog 19 #[] w fun e w' => e = .returned (.bool true) ∧ Below w.heap.size w w' := by
  have hp := hno.pos
  go_enter Tryd.func19, Tryd.ntmps19
  go_wp2_with fail
  obtain ⟨W1, hW1⟩ : ∃ x, x = w.alloc (.cells #[.bool false, .int .u32 256, .int .u32 1792, .bool false, .int .u32 291, .int .u32 2047] 38) := ⟨_, rfl⟩
  have z1 : W1.heap.size = w.heap.size + 1 := by rw [hW1]; simp
  have b1 : Below w.heap.size w W1 := by rw [hW1]; exact below_alloc _ _
  have s0 : SlR W1 (some ⟨w.heap.size, 0, none⟩) 2 (askR 0) := by
    rw [hW1]
    exact SlOf.lit w enRule 3 (fun _ => rfl) _ _ _ 2 rfl rfl (by decide)
  rw [← hW1]
  clear hW1
  obtain ⟨W2, hW2⟩ : ∃ x, x = W1.alloc (.cells #[.bool false, .int .u32 291, .int .u32 2047, .bool false, .int .u32 256, .int .u32 1792, .bool false, .int .u32 511, .int .u32 1792] 38) := ⟨_, rfl⟩
  have z2 : W2.heap.size = w.heap.size + 1 + 1 := by rw [hW2]; simp [z1]
  have b2 : Below W1.heap.size W1 W2 := by rw [hW2]; exact below_alloc _ _
  have s0 := s0.keep b2 (Nat.le_refl _)
  have s1 : SlR W2 (some ⟨w.heap.size + 1, 0, none⟩) 3 (askR 1) := by
    rw [hW2, ← z1]
    exact SlOf.lit W1 enRule 3 (fun _ => rfl) _ _ _ 3 rfl rfl (by decide)
  rw [← hW2]
  clear hW2
  obtain ⟨W3, hW3⟩ : ∃ x, x = W2.alloc (.cells #[.bool false, .int .u32 0, .int .u32 2047, .bool false, .int .u32 0, .int .u32 4294967295] 38) := ⟨_, rfl⟩
  have z3 : W3.heap.size = w.heap.size + 1 + 1 + 1 := by rw [hW3]; simp [z2]
  have b3 : Below W2.heap.size W2 W3 := by rw [hW3]; exact below_alloc _ _
  have s0 := s0.keep b3 (Nat.le_refl _)
  have s1 := s1.keep b3 (Nat.le_refl _)
  have s2 : SlR W3 (some ⟨w.heap.size + 1 + 1, 0, none⟩) 2 (askR 2) := by
    rw [hW3, ← z2]
    exact SlOf.lit W2 enRule 3 (fun _ => rfl) _ _ _ 2 rfl rfl (by decide)
  rw [← hW3]
  clear hW3
  obtain ⟨W4, hW4⟩ : ∃ x, x = W3.alloc (.cells #[.bool false, .int .u32 2048, .int .u32 4095, .bool true, .int .u32 5, .int .u32 0] 38) := ⟨_, rfl⟩
  have z4 : W4.heap.size = w.heap.size + 1 + 1 + 1 + 1 := by rw [hW4]; simp [z3]
  have b4 : Below W3.heap.size W3 W4 := by rw [hW4]; exact below_alloc _ _
  have s0 := s0.keep b4 (Nat.le_refl _)
  have s1 := s1.keep b4 (Nat.le_refl _)
  have s2 := s2.keep b4 (Nat.le_refl _)
  have s3 : SlR W4 (some ⟨w.heap.size + 1 + 1 + 1, 0, none⟩) 2 (askR 3) := by
    rw [hW4, ← z3]
    exact SlOf.lit W3 enRule 3 (fun _ => rfl) _ _ _ 2 rfl rfl (by decide)
  rw [← hW4]
  clear hW4
  obtain ⟨W5, hW5⟩ : ∃ x, x = W4.alloc (.cells #[.bool false, .int .u32 2048, .int .u32 4095, .bool false, .int .u32 2048, .int .u32 2048] 38) := ⟨_, rfl⟩
  have z5 : W5.heap.size = w.heap.size + 1 + 1 + 1 + 1 + 1 := by rw [hW5]; simp [z4]
  have b5 : Below W4.heap.size W4 W5 := by rw [hW5]; exact below_alloc _ _
  have s0 := s0.keep b5 (Nat.le_refl _)
  have s1 := s1.keep b5 (Nat.le_refl _)
  have s2 := s2.keep b5 (Nat.le_refl _)
  have s3 := s3.keep b5 (Nat.le_refl _)
  have s4 : SlR W5 (some ⟨w.heap.size + 1 + 1 + 1 + 1, 0, none⟩) 2 (askR 4) := by
    rw [hW5, ← z4]
    exact SlOf.lit W4 enRule 3 (fun _ => rfl) _ _ _ 2 rfl rfl (by decide)
  rw [← hW5]
  clear hW5
  obtain ⟨W6, hW6⟩ : ∃ x, x = W5.alloc (.cells #[.slice (some ⟨w.heap.size, 0, none⟩) 2 2, .slice (some ⟨w.heap.size + 1, 0, none⟩) 3 3, .slice (some ⟨w.heap.size + 1 + 1, 0, none⟩) 2 2, .slice (some ⟨w.heap.size + 1 + 1 + 1, 0, none⟩) 2 2, .slice (some ⟨w.heap.size + 1 + 1 + 1 + 1, 0, none⟩) 2 2] 22) := ⟨_, rfl⟩
  have z6 : W6.heap.size = w.heap.size + 1 + 1 + 1 + 1 + 1 + 1 := by rw [hW6]; simp [z5]
  have b6 : Below W5.heap.size W5 W6 := by rw [hW6]; exact below_alloc _ _
  have s0 := s0.keep b6 (Nat.le_refl _)
  have s1 := s1.keep b6 (Nat.le_refl _)
  have s2 := s2.keep b6 (Nat.le_refl _)
  have s3 := s3.keep b6 (Nat.le_refl _)
  have s4 := s4.keep b6 (Nat.le_refl _)
  have s5 : SlOf W6 enV 1 (some ⟨w.heap.size + 1 + 1 + 1 + 1 + 1, 0, none⟩) 5 ((List.range 5).map fun j => .slice (some ⟨w.heap.size + j, 0, none⟩) (askR j).length (askR j).length) := by
    rw [hW6, ← z5]
    exact SlOf.lit W5 enV 1 (fun _ => rfl) _ _ _ 5 (by rfl) rfl (by decide)
  rw [← hW6]
  clear hW6
  obtain ⟨W7, hW7⟩ : ∃ x, x = W6.alloc (.cells #[.bool false, .int .u32 256, .int .u32 1792, .bool false, .int .u32 256, .int .u32 1792, .bool false, .int .u32 0, .int .u32 2047, .bool true, .int .u32 5, .int .u32 0, .bool false, .int .u32 2048, .int .u32 4095] 38) := ⟨_, rfl⟩
  have z7 : W7.heap.size = w.heap.size + 1 + 1 + 1 + 1 + 1 + 1 + 1 := by rw [hW7]; simp [z6]
  have b7 : Below W6.heap.size W6 W7 := by rw [hW7]; exact below_alloc _ _
  have s0 := s0.keep b7 (Nat.le_refl _)
  have s1 := s1.keep b7 (Nat.le_refl _)
  have s2 := s2.keep b7 (Nat.le_refl _)
  have s3 := s3.keep b7 (Nat.le_refl _)
  have s4 := s4.keep b7 (Nat.le_refl _)
  have s5 := s5.keep b7 (Nat.le_refl _)
  have s6 : SlR W7 (some ⟨w.heap.size + 1 + 1 + 1 + 1 + 1 + 1, 0, none⟩) 5 wantR := by
    rw [hW7, ← z6]
    exact SlOf.lit W6 enRule 3 (fun _ => rfl) _ _ _ 5 rfl rfl (by decide)
  rw [← hW7]
  clear hW7
  have hB7 : Below w.heap.size w W7 := bstep (bstep (bstep (bstep (bstep (bstep b1 b2 (Nat.le_refl _)) b3 (Nat.le_refl _)) b4 (Nat.le_refl _)) b5 (Nat.le_refl _)) b6 (Nat.le_refl _)) b7 (Nat.le_refl _)
  have hall : ∀ j, j < 5 → SlR W7 (some ⟨w.heap.size + j, 0, none⟩) (askR j).length (askR j) := fun j hj => by
    match j, hj with
    | 0, _ => exact s0
    | 1, _ => exact s1
    | 2, _ => exact s2
    | 3, _ => exact s3
    | 4, _ => exact s4
  clear s0 s1 s2 s3 s4 b1 b2 b3 b4 b5 b6 b7 z1 z2 z3 z4 z5 z6 z7
  generalize w.heap.size + 1 + 1 + 1 + 1 + 1 + 1 = gw at *
  generalize w.heap.size + 1 + 1 + 1 + 1 + 1 = gl at *
  have hsz7 := hB7.size
  go_loopw [3] (fun v wr => ∃ i : Nat, i ≤ 5 ∧ v = .int .i64 (i : Nat) ∧ Below W7.heap.size W7 wr) (fun v _ => 5 - (intOf v).toNat)
  case atStart => exact ⟨0, by omega, rfl, Below.refl _ _⟩
  case round =>
    obtain ⟨i, hi, rfl, hbi⟩ := hrel
    by_cases hlt : i < 5
    · obtain ⟨bl, ol, e, hbl, hcl⟩ := SlOf.cell1 (SlOf.keep s5 hbi (Nat.le_refl _)) id (fun _ => rfl) (k := i) (by simpa using hlt)
      cases e
      rw [range_map_get, Nat.zero_add] at hcl
      change World.cell? _ _ = some (.slice (some ⟨w.heap.size + i, 0, none⟩) (askR i).length (askR i).length) at hcl
      have HL := Lib.hid (ask_less i hlt)
      have hln : (askR i).length ≤ 3 := by match i, hlt with | 0, _ => decide | 1, _ => decide | 2, _ => decide | 3, _ => decide | 4, _ => decide
      have hwi : SlR W7 (some ⟨gw, 0 + i * 3, none⟩) (5 - i) ((wantR.drop i).take 1) := by
        have h1 := SlOf.suf s6 (fun _ => rfl) i (by show i ≤ 5; omega)
        exact SlOf.pre (ys := (wantR.drop i).drop 1) (by rw [List.take_append_drop]; exact h1) (fun _ => rfl)
      rw [Nat.zero_add] at hwi
      have HK1 : Hid (1 = ((wantR.drop i).take 1).length) := Lib.hid (by rw [List.length_take, List.length_drop]; show 1 = min 1 (5 - i); omega)
      generalize (wantR.drop i).take 1 = Wi at *
      have hwr : IntKind.i64.wrap ((i : Int) + 1) = (i : Int) + 1 := by unfold IntKind.wrap; simp [IntKind.bits, IntKind.signed]; omega
      have hk0 : 0 ≤ IntKind.i64.wrap ((i : Int) + 1) ∧ IntKind.i64.wrap ((i : Int) + 1) ≤ 5 := by rw [hwr]; omega
      have hkt : (IntKind.i64.wrap ((i : Int) + 1)).toNat = i + 1 := by rw [hwr]; omega
      have hk2 : i ≤ i + 1 := by omega
      have hk3 : ¬ 5 = i := by omega
      clear hwr
      go_wp2_with fail
      refine wp_region_held_drew (S := (fun (w' : World) => Below W7.heap.size W7 w' ∧ w'.cell? ⟨gl, i, none⟩ = some (.slice (some ⟨w.heap.size + i, 0, none⟩) (askR i).length (askR i).length))) (by kernel_rfl) ⟨hbi.drew, hcl⟩ (fun hHeld => ?_)
      refine held_take 0 (v := ?_) rfl (by kernel_rfl) (by kernel_rfl) (by kernel_rfl) (fun _ _ _ h => h) (by assumption) ?_ ?_
      rotate_left
      · first | (refine Or.inr ⟨?_, ?_⟩ <;> rfl) | (refine Or.inl ⟨by rfl, ?_⟩; intro w hSw; (try dsimp only at hSw); first | (go_simp; done) | (go_simp; with_reducible rfl) | (go_simp; rw [if_pos hk0, hkt, if_pos hk2]))
      try simp only [Act.put, List.setIfInBounds_toArray, List.set_cons_zero, List.set_cons_succ]
      refine held_take 1 (v := ?_) rfl (by kernel_rfl) (by kernel_rfl) (by kernel_rfl) (fun _ _ _ h => h) (by assumption) ?_ ?_
      rotate_left
      · first | (refine Or.inr ⟨?_, ?_⟩ <;> rfl) | (refine Or.inl ⟨by rfl, ?_⟩; intro w hSw; (try dsimp only at hSw); first | (go_simp; done) | (go_simp; with_reducible rfl) | (go_simp; rw [if_pos hk0, hkt, if_pos hk2]))
      try simp only [Act.put, List.setIfInBounds_toArray, List.set_cons_zero, List.set_cons_succ]
      refine held_take 2 (v := ?_) rfl (by kernel_rfl) (by kernel_rfl) (by kernel_rfl) (fun _ _ _ h => h) (by assumption) ?_ ?_
      rotate_left
      · first | (refine Or.inr ⟨?_, ?_⟩ <;> rfl) | (refine Or.inl ⟨by rfl, ?_⟩; intro w hSw; (try dsimp only at hSw); first | (go_simp; done) | (go_simp; with_reducible rfl) | (go_simp; rw [if_pos hk0, hkt, if_pos hk2]))
      try simp only [Act.put, List.setIfInBounds_toArray, List.set_cons_zero, List.set_cons_succ]
      refine held_take 3 (v := ?_) rfl (by kernel_rfl) (by kernel_rfl) (by kernel_rfl) (fun _ _ _ h => h) (by assumption) ?_ ?_
      rotate_left
      · first | (refine Or.inr ⟨?_, ?_⟩ <;> rfl) | (refine Or.inl ⟨by rfl, ?_⟩; intro w hSw; (try dsimp only at hSw); first | (go_simp; done) | (go_simp; with_reducible rfl) | (go_simp; rw [if_pos hk0, hkt, if_pos hk2]))
      try simp only [Act.put, List.setIfInBounds_toArray, List.set_cons_zero, List.set_cons_succ]
      refine held_take 5 (v := ?_) rfl (by kernel_rfl) (by kernel_rfl) (by kernel_rfl) (fun _ _ _ h => h) (by assumption) ?_ ?_
      rotate_left
      · first | (refine Or.inr ⟨?_, ?_⟩ <;> rfl) | (refine Or.inl ⟨by rfl, ?_⟩; intro w hSw; (try dsimp only at hSw); first | (go_simp; done) | (go_simp; with_reducible rfl) | (go_simp; rw [if_pos hk0, hkt, if_pos hk2]))
      try simp only [Act.put, List.setIfInBounds_toArray, List.set_cons_zero, List.set_cons_succ]
      refine held_take 6 (v := ?_) rfl (by kernel_rfl) (by kernel_rfl) (by kernel_rfl) (fun _ _ _ h => h) (by assumption) ?_ ?_
      rotate_left
      · first | (refine Or.inr ⟨?_, ?_⟩ <;> rfl) | (refine Or.inl ⟨by rfl, ?_⟩; intro w hSw; (try dsimp only at hSw); first | (go_simp; done) | (go_simp; with_reducible rfl) | (go_simp; rw [if_pos hk0, hkt, if_pos hk2]))
      try simp only [Act.put, List.setIfInBounds_toArray, List.set_cons_zero, List.set_cons_succ]
      refine held_take 7 (v := ?_) rfl (by kernel_rfl) (by kernel_rfl) (by kernel_rfl) (fun _ _ _ h => h) (by assumption) ?_ ?_
      rotate_left
      · first | (refine Or.inr ⟨?_, ?_⟩ <;> rfl) | (refine Or.inl ⟨by rfl, ?_⟩; intro w hSw; (try dsimp only at hSw); first | (go_simp; done) | (go_simp; with_reducible rfl) | (go_simp; rw [if_pos hk0, hkt, if_pos hk2]))
      try simp only [Act.put, List.setIfInBounds_toArray, List.set_cons_zero, List.set_cons_succ]
      refine held_take 8 (v := ?_) rfl (by kernel_rfl) (by kernel_rfl) (by kernel_rfl) (fun _ _ _ h => h) (by assumption) ?_ ?_
      rotate_left
      · first | (refine Or.inr ⟨?_, ?_⟩ <;> rfl) | (refine Or.inl ⟨by rfl, ?_⟩; intro w hSw; (try dsimp only at hSw); first | (go_simp; done) | (go_simp; with_reducible rfl) | (go_simp; rw [if_pos hk0, hkt, if_pos hk2]))
      try simp only [Act.put, List.setIfInBounds_toArray, List.set_cons_zero, List.set_cons_succ]
      refine held_take 9 (v := ?_) rfl (by kernel_rfl) (by kernel_rfl) (by kernel_rfl) (fun _ _ _ h => h) (by assumption) ?_ ?_
      rotate_left
      · first | (refine Or.inr ⟨?_, ?_⟩ <;> rfl) | (refine Or.inl ⟨by rfl, ?_⟩; intro w hSw; (try dsimp only at hSw); first | (go_simp; done) | (go_simp; with_reducible rfl) | (go_simp; rw [if_pos hk0, hkt, if_pos hk2]))
      try simp only [Act.put, List.setIfInBounds_toArray, List.set_cons_zero, List.set_cons_succ]
      refine held_call 4 rfl (by kernel_rfl) (fun K hK => ?_)
      go_simp
      with_reducible refine (less_any (askR i) (ask_ok i) _ rfl _ _ _ (hno.keep (hB7.trans (hHeld.1.mono hsz7)) hp) (SlOf.keep (hall i hlt) hHeld.1 (Nat.le_refl _)) (by omega)).mono ?_
      rintro e w' ⟨v, rfl, hb', ho⟩
      rw [HL.out] at ho
      obtain ⟨a3, c3, rfl, hs3⟩ := ho.shape
      clear ho
      refine hK.out _ _ ?_ (fun hHeld => ?_)
      · exact ⟨bstep hHeld.1 hb' (Nat.le_refl _), cell_keep' hHeld.2 hb'⟩
      clear hK K
      try simp only [Act.put, List.setIfInBounds_toArray, List.set_cons_zero, List.set_cons_succ]
      refine held_call 10 rfl (by kernel_rfl) (fun K hK => ?_)
      go_simp
      with_reducible refine (sameRules_any Wi _ _ rfl HK1.out _ _ _ _ _ hs3 (SlOf.keep hwi hHeld.1 (Nat.le_refl _))).mono ?_
      rintro e w' ⟨rfl, hb'⟩
      refine hK.out _ _ ?_ (fun hHeld => ?_)
      · exact ⟨bstep hHeld.1 hb' (Nat.le_refl _), cell_keep' hHeld.2 hb'⟩
      clear hK K
      try simp only [Act.put, List.setIfInBounds_toArray, List.set_cons_zero, List.set_cons_succ]
      refine held_take 11 (v := ?_) rfl (by kernel_rfl) (by kernel_rfl) (by kernel_rfl) (fun _ _ _ h => h) (by assumption) ?_ ?_
      rotate_left
      · first | (refine Or.inr ⟨?_, ?_⟩ <;> rfl) | (refine Or.inl ⟨by rfl, ?_⟩; intro w hSw; (try dsimp only at hSw); first | (go_simp; done) | (go_simp; with_reducible rfl) | (go_simp; rw [if_pos hk0, hkt, if_pos hk2]))
      try simp only [Act.put, List.setIfInBounds_toArray, List.set_cons_zero, List.set_cons_succ]
      refine wpAnyH_done (by kernel_rfl) ?_ _
      have HB := Lib.hid (hHeld.1)
      go_wp2_with fail
      go_roundw
      case rel => exact ⟨i + 1, by omega, by go_num, HB.out⟩
      case measure => simp [intOf]; omega
    · obtain rfl : i = 5 := by omega
      go_wp2_with fail
      have hb2 := bstep hB7 hbi (Nat.le_refl _)
      have hb3 := bstep hb2 (below_alloc wr (.cells #[.bool false, .int .u32 256, .int .u32 1792, .bool true, .int .u32 5, .int .u32 0] 38)) (Nat.le_refl _)
      have hO : SlR (wr.alloc (.cells #[.bool false, .int .u32 256, .int .u32 1792, .bool true, .int .u32 5, .int .u32 0] 38)) (some ⟨wr.heap.size, 0, none⟩) 2 [⟨false, 256, 1792⟩, ⟨true, 5, 0⟩] := SlOf.lit wr enRule 3 (fun _ => rfl) _ _ _ 2 rfl rfl (by decide)
      clear hbi hb2 hall s5 s6 hB7 hsz7
      generalize wr.alloc (.cells #[.bool false, .int .u32 256, .int .u32 1792, .bool true, .int .u32 5, .int .u32 0] 38) = w8 at *
      refine (works_any _ (hno.keep hb3 hp)).mono ?_
      rintro e w9 ⟨rfl, hb4⟩
      have hb5 := bstep hb3 hb4 (Nat.le_refl _)
      have hO2 := hO.keep hb4 (Nat.le_refl _)
      clear hb3 hb4 hO
      go_wp2_with fail
      refine (takes_any [⟨false, 256, 1792⟩, ⟨true, 5, 0⟩] (by simp [okRule]) 2 rfl _ _ 291 (by decide) true _ _ hO2).mono ?_
      rintro e w10 ⟨rfl, hb6⟩
      rw [show takesN [⟨false, 256, 1792⟩, ⟨true, 5, 0⟩] true 291 = true by decide]
      have hb7 := bstep hb5 hb6 (Nat.le_refl _)
      have hO3 : SlR w10 (some ⟨wr.heap.size, 0, none⟩) 2 [⟨false, 256, 1792⟩] := SlOf.pre (ys := [⟨true, 5, 0⟩]) (hO2.keep hb6 (Nat.le_refl _)) (fun _ => rfl)
      clear hb5 hb6 hO2
      go_wp2_with fail
      refine (takes_any [⟨false, 256, 1792⟩] (by simp [okRule]) 1 rfl _ _ 291 (by decide) true _ _ hO3).mono ?_
      rintro e w11 ⟨rfl, hb8⟩
      rw [show takesN [⟨false, 256, 1792⟩] true 291 = false by decide]
      have hb9 := bstep hb7 hb8 (Nat.le_refl _)
      clear hb7 hb8 hO3
      go_wp2_with fail
      refine (takesOne_any ⟨false, 0, 2047⟩ (by simp [okRule]) false 4294965248 (by decide) _ w11).mono ?_
      rintro e w12 ⟨rfl, hb10⟩
      rw [show takesR ⟨false, 0, 2047⟩ false 4294965248 = true by decide]
      have hb11 := bstep hb9 hb10 (Nat.le_refl _)
      clear hb9 hb10
      go_wp2_with fail
      refine (less_any [] (fun _ h => by cases h) 0 rfl _ _ _ (hno.keep hb11 hp) (SlOf.nil _ _ _) (by decide)).mono ?_
      rintro e w13 ⟨v, rfl, hb12, ho⟩
      have hb13 := bstep hb11 hb12 (Nat.le_refl _)
      rw [show lessN [] = [] from rfl] at ho
      obtain ⟨a3, c3, rfl, hs3⟩ := ho.shape
      go_wp2_with fail
      go_ret
      exact ⟨rfl, hb13⟩
end Go.Proofs.YtflghgilcooiiaaDoor
