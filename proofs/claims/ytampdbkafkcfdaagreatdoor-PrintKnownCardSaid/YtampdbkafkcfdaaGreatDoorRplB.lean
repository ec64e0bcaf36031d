/-
  strings.Replacer of two bytes that are written with a bar ahead: build, buildOnce: contracts.
-/
import Derived.Test.YtampdbkafkcfdaaGreatDoorRplA
import Derived.Test.YtampdbkafkcfdaaGreatDoorBaseC
import Derived.Test.YtampdbkafkcfdaaGreatDoorAppB
import Derived.Deep.WholeRow
import Derived.Lib.SlBytesConst

namespace Go.Proofs.YtampdbkafkcfdaaGreatDoor
set_option linter.unusedVariables false
open Go.RowKit

def enBs (s : ByteArray) : List Value := [.string s]
theorem enBs_len (s : ByteArray) : (enBs s).length = 1 := rfl
theorem bss_ty : SlTy Tryz.prog 26 9 1 16 := SlTy.mk' (.string ⟨#[]⟩) Tryz.underlying26 (by kernel_rfl) rfl (by decide) (by decide)
/-- the four texts that Quote hands NewReplacer -/
def escT : List ByteArray := [⟨#[92]⟩, ⟨#[92, 92]⟩, ⟨#[34]⟩, ⟨#[92, 34]⟩]

def zeroB : Array Value := ⟨List.replicate 257 (.slice none 0 0)⟩
theorem zeroB_info : (Tryz.prog.info? 220).map (fun i => (i.zero, i.size)) = some (some (.agg zeroB), 257) := by kernel_rfl
theorem zeroB_run (w : World) : (zeroValue 220).run Tryz.prog w = .ok (.agg zeroB) w := (zero_of_info zeroB_info).1 w
theorem zeroB_size : zeroB.size = 257 := by unfold zeroB; rw [List.size_toArray, List.length_replicate]
theorem zeroB_get (c : Nat) (h : c < 257) : zeroB[c]? = some (.slice none 0 0) := by
  unfold zeroB; rw [List.getElem?_toArray, List.getElem?_replicate, if_pos h]
theorem store_B (x : Value) (hx : x.oneCell' = true) (w : World) : (storeCells ⟨w.heap.size, 0, none⟩ (zeroB.toList.set 256 x)).run Tryz.prog (w.alloc (.cells zeroB 220)) = .ok () (w.alloc (.cells (zeroB.setIfInBounds 256 x) 220)) := by
  have h := run_storeCells_new (P := Tryz.prog) w 220 zeroB (zeroB.setIfInBounds 256 x) (by rw [Array.size_setIfInBounds, zeroB_size]; exact (zero_of_info zeroB_info).2) (by rw [Array.size_setIfInBounds]) (by
    rw [Array.all_eq_true]
    intro i hi
    rw [Array.size_setIfInBounds] at hi
    rw [Array.getElem_setIfInBounds hi]
    split
    · exact hx
    · have h2 := zeroB_get i (by rw [← zeroB_size]; exact hi)
      rw [Array.getElem?_eq_getElem hi] at h2
      rw [Option.some.inj h2]; rfl)
  rw [Array.toList_setIfInBounds] at h
  exact h

theorem conv_c (c : UInt8) (W : World) : (convert 114 9 (.slice (some ⟨W.heap.size, 0, none⟩) 1 1)).run Tryz.prog (W.alloc (.cells #[.int .u8 (c.toNat : Int)] 5)) = .ok (.string ⟨#[c]⟩) (W.alloc (.cells #[.int .u8 (c.toNat : Int)] 5)) :=
  run_convert_bytes_back _ 114 9 5 ⟨W.heap.size, 0, none⟩ 1 [c] Tryz.underlying114 Tryz.underlying5 Tryz.underlying9 fun j hj => by
    obtain rfl : j = 0 := by simpa using hj
    rw [Addr.add_lit]
    simp
theorem conv_s (l : List UInt8) (hl : l.length ≤ maxLen) (W : World) : ∃ k W', (convert 9 114 (.string ⟨l.toArray⟩)).run Tryz.prog W = .ok (.slice (some ⟨W.heap.size, 0, none⟩) l.length k) W' ∧ Below W.heap.size W W' ∧ SlOf W' enByte 1 (some ⟨W.heap.size, 0, none⟩) k l := by
  have h := run_bytes_of_string (P := Tryz.prog) W 9 114 5 ⟨l.toArray⟩ Tryz.underlying9 Tryz.underlying114 Tryz.underlying5
  refine ⟨_, _, h, ((Below.refl _ _).drew).alloc (Nat.le_refl _) _, ?_⟩
  have hge := grownCap_ge W l.length 0 5
  have hle := grownCap_le_maxLen W l.length 0 5 hl
  refine ⟨flatMap_length enByte_len l, hge, hle, (fun e => by cases e), fun j hj => ⟨W.heap.size, 0, rfl, ?_⟩⟩
  rw [flatMap_length enByte_len, Nat.mul_one] at hj
  have h2 := World.cell?_alloc_mark W.drew (bytesRow ⟨l.toArray⟩ (grownCap W l.length 0 5)) 5 ((bytesRow ⟨l.toArray⟩ (grownCap W l.length 0 5)).size, (bytesRow ⟨l.toArray⟩ (grownCap W l.length 0 5)).size + 1) (0 + j)
  have h3 := bytesRow_at ⟨l.toArray⟩ (grownCap W l.length 0 5) j (by simpa using hj)
  rw [Nat.zero_add] at h2 ⊢
  rw [h3] at h2
  refine Eq.trans h2 ?_
  have h4 := flatMap_get enByte_len l j hj 0 (by decide)
  rw [Nat.mul_one, Nat.add_zero] at h4
  rw [h4]
  rfl
theorem Owns.setOtherR {α : Type} {w : World} {base : Nat} {e : TypeId} {size : Nat} {en : α → List Value} {v : Value} {xs : List α} (h : Owns w base e size en v xs) {p : Addr} (hp : ∀ k, v.ownBlock = some k → p.block ≠ k) (u : Value) : Owns (w.setCell p u) base e size en v xs := by
  refine ⟨h.1, ?_⟩
  rcases h.2 with h0 | ⟨g, cap, cur, hv, h1, h2, h3⟩
  · exact .inl h0
  · refine .inr ⟨g, cap, cur, hv, h1, ?_, h3⟩
    rw [Below.heap_setCell w p u g (Ne.symm (hp g (by rw [hv]; rfl)))]
    exact h2
/-- what the replacer of Quote holds in block B; all of it lies from number base on -/
structure RepAt (w : World) (base B : Nat) : Prop where
  lo : base ≤ B
  nil : ∀ c, c < 256 → c ≠ 34 → c ≠ 92 → w.cell? ⟨B, c, none⟩ = some (.slice none 0 0)
  q : ∃ g k, base ≤ g ∧ w.cell? ⟨B, 34, none⟩ = some (.slice (some ⟨g, 0, none⟩) 2 k) ∧ SlOf w enByte 1 (some ⟨g, 0, none⟩) k [92, 34]
  s : ∃ g k, base ≤ g ∧ w.cell? ⟨B, 92, none⟩ = some (.slice (some ⟨g, 0, none⟩) 2 k) ∧ SlOf w enByte 1 (some ⟨g, 0, none⟩) k [92, 92]
  t : ∃ g k, base ≤ g ∧ w.cell? ⟨B, 256, none⟩ = some (.slice (some ⟨g, 0, none⟩) 2 k) ∧ SlOf w enBs 1 (some ⟨g, 0, none⟩) k [⟨#[34]⟩, ⟨#[92]⟩]
theorem RepAt.of_heap {w w' : World} {base B : Nat} (h : RepAt w base B) (hh : ∀ k, base ≤ k → k < w.heap.size → w'.heap[k]? = w.heap[k]?) : RepAt w' base B := by
  have hB : B < w.heap.size := World.block_lt_of_cell? w _ (h.nil 0 (by decide) (by decide) (by decide))
  have hc : ∀ c, w'.cell? ⟨B, c, none⟩ = w.cell? ⟨B, c, none⟩ := fun c => World.cell?_of_block (hh B h.lo hB)
  have hs : ∀ {α : Type} {en : α → List Value} {g k : Nat} {xs : List α}, base ≤ g → (∃ x, w.cell? ⟨g, 0, none⟩ = some x) → SlOf w en 1 (some ⟨g, 0, none⟩) k xs → SlOf w' en 1 (some ⟨g, 0, none⟩) k xs := fun hg hx h => h.of_block fun b o e => by
    obtain ⟨x, hx⟩ := hx
    cases e
    exact hh _ hg (World.block_lt_of_cell? w _ hx)
  refine ⟨h.lo, fun c h1 h2 h3 => by rw [hc]; exact h.nil c h1 h2 h3, ?_, ?_, ?_⟩
  · obtain ⟨g, k, h1, h2, h3⟩ := h.q
    obtain ⟨b, o, e, _, h4⟩ := SlOf.cell1 h3 (fun x : UInt8 => .int .u8 (x.toNat : Int)) (fun _ => rfl) (k := 0) (by decide)
    cases e
    exact ⟨g, k, h1, by rw [hc]; exact h2, hs h1 ⟨_, h4⟩ h3⟩
  · obtain ⟨g, k, h1, h2, h3⟩ := h.s
    obtain ⟨b, o, e, _, h4⟩ := SlOf.cell1 h3 (fun x : UInt8 => .int .u8 (x.toNat : Int)) (fun _ => rfl) (k := 0) (by decide)
    cases e
    exact ⟨g, k, h1, by rw [hc]; exact h2, hs h1 ⟨_, h4⟩ h3⟩
  · obtain ⟨g, k, h1, h2, h3⟩ := h.t
    obtain ⟨b, o, e, _, h4⟩ := SlOf.cell1 h3 (fun x : ByteArray => .string x) (fun _ => rfl) (k := 0) (by decide)
    cases e
    exact ⟨g, k, h1, by rw [hc]; exact h2, hs h1 ⟨_, h4⟩ h3⟩
theorem RepAt.lower {w : World} {base b B : Nat} (h : RepAt w base B) (hb : b ≤ base) : RepAt w b B := by
  obtain ⟨g1, k1, a1, b1, c1⟩ := h.q
  obtain ⟨g2, k2, a2, b2, c2⟩ := h.s
  obtain ⟨g3, k3, a3, b3, c3⟩ := h.t
  exact ⟨Nat.le_trans hb h.lo, h.nil, ⟨g1, k1, by omega, b1, c1⟩, ⟨g2, k2, by omega, b2, c2⟩, ⟨g3, k3, by omega, b3, c3⟩⟩
theorem RepAt.keep {w w' : World} {base B : Nat} (h : RepAt w base B) (hb : Below w.heap.size w w') : RepAt w' base B := h.of_heap fun k _ hk => hb.block k hk

set_option maxRecDepth 100000 in
set_option maxHeartbeats 8000000 in
theorem build_any (r g k : Nat) (w : World) (hc : w.cell? ⟨r, 4, none⟩ = some (.slice (some ⟨g, 0, none⟩) 4 k)) (hs : SlOf w enBs 1 (some ⟨g, 0, none⟩) k escT) :
    Calls Tryz.prog 113 #[.pointer (some ⟨r, 0, none⟩)] w fun e w' => ∃ B, e = .returned (.iface 221 (.pointer (some ⟨B, 0, none⟩))) ∧ Below w.heap.size w w' ∧ RepAt w' w.heap.size B := by
  obtain ⟨b0, o0, e0, hb0, s0⟩ := SlOf.cell1 hs (fun x : ByteArray => .string x) (fun _ => rfl) (k := 0) (by decide)
  obtain ⟨b1, o1, e1, hb1, s1⟩ := SlOf.cell1 hs (fun x : ByteArray => .string x) (fun _ => rfl) (k := 1) (by decide)
  obtain ⟨b2, o2, e2, hb2, s2⟩ := SlOf.cell1 hs (fun x : ByteArray => .string x) (fun _ => rfl) (k := 2) (by decide)
  obtain ⟨b3, o3, e3, hb3, s3⟩ := SlOf.cell1 hs (fun x : ByteArray => .string x) (fun _ => rfl) (k := 3) (by decide)
  cases e0; cases e1; cases e2; cases e3
  replace s0 : w.cell? ⟨g, 0, none⟩ = some (.string ⟨#[92]⟩) := s0
  replace s1 : w.cell? ⟨g, 1, none⟩ = some (.string ⟨#[92, 92]⟩) := by simpa [escT] using s1
  replace s2 : w.cell? ⟨g, 2, none⟩ = some (.string ⟨#[34]⟩) := by simpa [escT] using s2
  replace s3 : w.cell? ⟨g, 3, none⟩ = some (.string ⟨#[92, 34]⟩) := by simpa [escT] using s3
  have hsl := Lib.hid hs
  have hk := hs.le
  clear hs hb1 hb2 hb3
  obtain ⟨i0, hi, hz0, hz1, hz2⟩ := info_parts (P := Tryz.prog) (e := 9) (z := .string ⟨#[]⟩) (size := 1) (bytes := 16) (by kernel_rfl)
  have hzr := zeroB_run
  have hst := fun (g : Nat) => store_B (.slice (some ⟨g, 0, none⟩) 0 2) rfl
  have hCs : ∀ g : Nat, (zeroB.setIfInBounds 256 (.slice (some ⟨g, 0, none⟩) 0 2)).size = 257 := fun g => by rw [Array.size_setIfInBounds]; exact zeroB_size
  have hCt : ∀ g : Nat, (zeroB.setIfInBounds 256 (.slice (some ⟨g, 0, none⟩) 0 2))[256]? = some (.slice (some ⟨g, 0, none⟩) 0 2) := fun g => by simp [zeroB_size]
  have hCn : ∀ (g : Nat) (c : Nat), c < 256 → (zeroB.setIfInBounds 256 (.slice (some ⟨g, 0, none⟩) 0 2))[c]? = some (.slice none 0 0) := fun g c hc => by
    rw [Array.getElem?_setIfInBounds_ne (by omega)]
    exact zeroB_get c (by omega)
  obtain ⟨C, hC⟩ : ∃ C : Nat → Array Value, ∀ g, C g = zeroB.setIfInBounds 256 (.slice (some ⟨g, 0, none⟩) 0 2) := ⟨_, fun _ => rfl⟩
  have hZs := zeroB_size
  simp only [← hC] at hst hCs hCt hCn
  clear hC
  generalize zeroB = Z at *
  have HCn := Lib.hid hCn
  have HCt := Lib.hid hCt
  have HCs := Lib.hid hCs
  clear hCn hCt hCs
  go_enter Tryz.func113, Tryz.ntmps113
  go_wp2_with fail
  refine wp_loop_rounds 3 ?_
  rw [rounds_succ]
  go_wp2_with fail
  rw [rounds_succ]
  go_wp2_with fail
  rw [rounds_succ]
  go_wp2_with (at_make; refine wpList_make_own _ rfl _ _ 26 rfl w.heap.size 9 i0 _ 1 Tryz.underlying26 hi hz0 hz1 .i64 .i64 _ 2 rfl rfl rfl (by rw [hz2]; omega) (by unfold maxLen; omega) (Nat.le_refl _) ?_; intro w1 hown hgrow)
  have hb1 : Below w.heap.size w w1 := Below.ofGrown hgrow
  have ho1 : Owns w1 w.heap.size 9 1 enBs (.slice (some ⟨w.heap.size, 0, none⟩) 0 2) [] := hown
  have htlt : w.heap.size < w1.heap.size := (ho1.lt w.heap.size rfl).2
  have HB2 := Lib.hid (hb1.alloc hb1.size (.cells (C w.heap.size) 220))
  have HO2 := Lib.hid (ho1.alloc (.cells (C w.heap.size) 220))
  have HK2 := Lib.hid (Blk.new w1 (C w.heap.size) 220)
  have hz2' : (w1.alloc (.cells (C w.heap.size) 220)).heap.size = w1.heap.size + 1 := by simp
  clear hown hgrow hb1 ho1 hst hzr hZs hi hz0 hz1 hz2
  generalize w1.alloc (.cells (C w.heap.size) 220) = W1 at *
  obtain ⟨B, hB⟩ : ∃ B, B = w1.heap.size := ⟨_, rfl⟩
  rw [← hB] at HK2 htlt hz2' ⊢
  clear hB
  obtain ⟨t, ht⟩ : ∃ t, t = w.heap.size := ⟨_, rfl⟩
  have HT := Lib.hid ht
  have HC1 := Lib.hid (HCn.out w.heap.size)
  have HC2 := Lib.hid (HCt.out w.heap.size)
  have HC3 := Lib.hid (HCs.out w.heap.size)
  clear ht HCn HCt HCs
  generalize C w.heap.size = C0 at *
  have d2 := cell_keep s2 HB2.out hb0
  have d3 := cell_keep s3 HB2.out hb0
  have b34 := HK2.out.cell 34 _ (HC1.out 34 (by decide))
  have b256 := HK2.out.cell 256 _ HC2.out
  have f256 := HK2.out.free 256
  have hBs : B < W1.heap.size := by omega
  clear hz2'
  have hcv : ∀ W : World, (convert 114 9 (.slice (some ⟨W.heap.size, 0, none⟩) 1 1)).run Tryz.prog (W.alloc (.cells #[.int .u8 34] 5)) = .ok (.string ⟨#[34]⟩) (W.alloc (.cells #[.int .u8 34] 5)) := conv_c 34
  have hen : ∀ w : World, (binOp .eql 114 (.slice none 0 0) (.slice none 0 0)).run Tryz.prog w = .ok (.bool true) w := fun w => by kernel_rfl
  have hg34 : ∀ h, (⟨#[34]⟩ : ByteArray)[0]'h = 34 := fun _ => rfl
  refine wp_loop_rounds 3 ?_
  rw [rounds_succ]
  go_wp2_with (at_builtin; go_loud (refine wpList_append_elem3 bss_ty [] ⟨#[34]⟩ (HO2.out.alloc _) (HB2.out.alloc HB2.out.size _) (Nat.le_refl _) (by simp) ?_ (hx := by rw [World.size_alloc]; rfl) (hone := by simp [enBs, Value.oneCell'])))
  intro v9 w9 ho9 hb9 hg9 hv9
  obtain ⟨a9, c9, rfl, -⟩ := ho9.shape
  simp only [List.length_cons, List.length_nil, Nat.zero_add] at ho9 hv9
  have hv9' : ∀ k, (Value.slice a9 1 c9).ownBlock = some k → k ≠ B := fun k hk => by
    rcases hv9 k hk with h | h
    · have : w.heap.size = k := by simpa [Value.ownBlock] using h
      omega
    · first | omega | (rw [World.size_alloc] at h; omega)
  have hk9 : Blk w9 B C0 := (HK2.out.alloc (.cells #[.int .u8 34] 5)).same (hg9.block B (by simp; omega) (by simp [Value.ownBlock]; omega))
  have HK10 := Lib.hid (hk9.st 256 (.slice a9 1 c9))
  have HO10 := Lib.hid (ho9.setOtherR (p := ⟨B, 256, none⟩) (fun k hk => Ne.symm (hv9' k hk)) (.slice a9 1 c9))
  have HB10 := Lib.hid (hb9.setCell (p := ⟨B, 256, none⟩) (by show w.heap.size ≤ B; omega) (.slice a9 1 c9))
  have m256 := hk9.cell 256 _ HC2.out
  have mf256 := hk9.free 256
  have hB9 : B < w9.heap.size := hk9.lt
  obtain ⟨k1, W11, hcv1, hb11, hs11⟩ := conv_s [92, 34] (by decide) (w9.setCell ⟨B, 256, none⟩ (.slice a9 1 c9))
  have HE := Lib.hid (show (w9.setCell ⟨B, 256, none⟩ (.slice a9 1 c9)).heap.size = w9.heap.size from by simp [World.setCell])
  have HB11 := Lib.hid (bstep HB10.out hb11 (Nat.le_refl _))
  have hk11 := HK10.out.keep hb11 (Nat.le_refl _)
  have HO11 := Lib.hid (HO10.out.keep hb11 (Nat.le_refl _))
  have hsz11 := hb11.size
  rw [HE.out] at hcv1 hs11 hsz11
  have n34 : W11.cell? ⟨B, 34, none⟩ = some (.slice none 0 0) := hk11.cell 34 _ (by rw [Array.getElem?_setIfInBounds_ne (by decide)]; exact HC1.out 34 (by decide))
  have nf34 := hk11.free 34
  have HS11 := Lib.hid hs11
  have HK11 := Lib.hid hk11
  have HV9 := Lib.hid hv9'
  have HVL := Lib.hid (fun k hk => (ho9.lt k hk).2 : ∀ k, (Value.slice a9 1 c9).ownBlock = some k → k < w9.heap.size)
  have HC1' := Lib.hid hcv1
  clear hcv1
  have hcv1 : (convert 9 114 (.string ⟨#[92, 34]⟩)).run Tryz.prog (w9.setCell ⟨B, 256, none⟩ (.slice a9 1 c9)) = .ok (.slice (some ⟨w9.heap.size, 0, none⟩) 2 k1) W11 := HC1'.out
  clear HC1' hv9 hg9 ho9 hb9 hs11 hk11 hk9 hv9' hb11 hcv b34 b256 f256 d2 d3 HK10 HO10 HB10 HO2 HB2 HK2
  go_wp2_with fail
  have HK12 := Lib.hid (HK11.out.st 34 (.slice (some ⟨w9.heap.size, 0, none⟩) 2 k1))
  have HO12 := Lib.hid (HO11.out.setOtherR (p := ⟨B, 34, none⟩) (fun k hk => Ne.symm (HV9.out k hk)) (.slice (some ⟨w9.heap.size, 0, none⟩) 2 k1))
  have HB12 := Lib.hid (HB11.out.setCell (p := ⟨B, 34, none⟩) (by show w.heap.size ≤ B; omega) (.slice (some ⟨w9.heap.size, 0, none⟩) 2 k1))
  have HS12 := Lib.hid (HS11.out.setCell (p := ⟨B, 34, none⟩) (by show B ≠ w9.heap.size; omega) (.slice (some ⟨w9.heap.size, 0, none⟩) 2 k1))
  generalize W11.setCell ⟨B, 34, none⟩ (.slice (some ⟨w9.heap.size, 0, none⟩) 2 k1) = W2 at *
  have HW9 := Lib.hid (show w.heap.size ≤ w9.heap.size by omega)
  obtain ⟨p1, hp1⟩ : ∃ p1, p1 = w9.heap.size := ⟨_, rfl⟩
  rw [← hp1] at HK12 HS12 HW9 hB9 HVL
  have HP1 := Lib.hid hB9
  clear HK11 HO11 HB11 HS11 HE m256 mf256 hcv1 n34 nf34 hsz11 hp1 hB9 hen hBs
  have d0 := cell_keep s0 HB12.out hb0
  have d1 := cell_keep s1 HB12.out hb0
  have b92 := HK12.out.cell 92 (.slice none 0 0) (by rw [Array.getElem?_setIfInBounds_ne (by decide), Array.getElem?_setIfInBounds_ne (by decide)]; exact HC1.out 92 (by decide))
  have b256 := HK12.out.cell 256 (.slice a9 1 c9) (by rw [Array.getElem?_setIfInBounds_ne (by decide)]; simp [HC3.out])
  have f256 := HK12.out.free 256
  have hBs := HK12.out.lt
  have hen : ∀ w : World, (binOp .eql 114 (.slice none 0 0) (.slice none 0 0)).run Tryz.prog w = .ok (.bool true) w := fun w => by kernel_rfl
  have hcv : ∀ W : World, (convert 114 9 (.slice (some ⟨W.heap.size, 0, none⟩) 1 1)).run Tryz.prog (W.alloc (.cells #[.int .u8 92] 5)) = .ok (.string ⟨#[92]⟩) (W.alloc (.cells #[.int .u8 92] 5)) := conv_c 92
  have hg92 : ∀ h, (⟨#[92]⟩ : ByteArray)[0]'h = 92 := fun _ => rfl
  rw [rounds_succ]
  go_wp2_with (at_builtin; go_loud (refine wpList_append_elem3 (en := enBs) bss_ty [⟨#[34]⟩] ⟨#[92]⟩ (HO12.out.alloc _) (HB12.out.alloc HB12.out.size _) (Nat.le_refl _) (by simp) ?_ (hx := by rw [World.size_alloc]; rfl) (hone := by simp [enBs, Value.oneCell'])))
  intro v13 w13 ho13 hb13 hg13 hv13
  obtain ⟨a13, c13, rfl, -⟩ := ho13.shape
  simp only [List.length_cons, List.length_nil, Nat.zero_add] at ho13 hv13
  have hv13' : ∀ k, (Value.slice a13 2 c13).ownBlock = some k → k ≠ B := fun k hk => by
    rcases hv13 k hk with h | h
    · exact HV9.out k h
    · first | omega | (rw [World.size_alloc] at h; omega)
  have hk13 : Blk w13 B _ := (HK12.out.alloc (.cells #[.int .u8 92] 5)).same (hg13.block B (by simp; omega) (fun e => HV9.out B e.symm rfl))
  have hs13 : SlOf w13 enByte 1 (some ⟨p1, 0, none⟩) k1 [92, 34] := (HS12.out.alloc (.cells #[.int .u8 92] 5)).of_block (fun b o e => by
    cases e
    refine hg13.block p1 ?_ (fun e => absurd (HVL.out p1 e.symm) (Nat.lt_irrefl _))
    obtain ⟨b, o, e, h4, _⟩ := SlOf.cell1 HS12.out (fun x : UInt8 => .int .u8 (x.toNat : Int)) (fun _ => rfl) (k := 0) (by decide)
    cases e
    simp
    omega)
  have HK14 := Lib.hid (hk13.st 256 (.slice a13 2 c13))
  have HO14 := Lib.hid (ho13.setOtherR (p := ⟨B, 256, none⟩) (fun k hk => Ne.symm (hv13' k hk)) (.slice a13 2 c13))
  have HB14 := Lib.hid (hb13.setCell (p := ⟨B, 256, none⟩) (by show w.heap.size ≤ B; omega) (.slice a13 2 c13))
  have HS14 := Lib.hid (hs13.setCell (p := ⟨B, 256, none⟩) (by show B ≠ p1; have := HP1.out; omega) (.slice a13 2 c13))
  have m256 := hk13.cell 256 (.slice a9 1 c9) (by rw [Array.getElem?_setIfInBounds_ne (by decide)]; simp [HC3.out])
  have mf256 := hk13.free 256
  have hB13 : B < w13.heap.size := hk13.lt
  obtain ⟨k2, W15, hcv2, hb15, hs15⟩ := conv_s [92, 92] (by decide) (w13.setCell ⟨B, 256, none⟩ (.slice a13 2 c13))
  have HE := Lib.hid (show (w13.setCell ⟨B, 256, none⟩ (.slice a13 2 c13)).heap.size = w13.heap.size from by simp [World.setCell])
  have HB15 := Lib.hid (bstep HB14.out hb15 (Nat.le_refl _))
  have hk15 := HK14.out.keep hb15 (Nat.le_refl _)
  have HO15 := Lib.hid (HO14.out.keep hb15 (Nat.le_refl _))
  have HS15 := Lib.hid (HS14.out.keep hb15 (Nat.le_refl _))
  have hsz15 := hb15.size
  rw [HE.out] at hcv2 hs15 hsz15
  have n92 : W15.cell? ⟨B, 92, none⟩ = some (.slice none 0 0) := hk15.cell 92 _ (by rw [Array.getElem?_setIfInBounds_ne (by decide), Array.getElem?_setIfInBounds_ne (by decide), Array.getElem?_setIfInBounds_ne (by decide)]; exact HC1.out 92 (by decide))
  have nf92 := hk15.free 92
  have HT15 := Lib.hid hs15
  have HK15 := Lib.hid hk15
  have HV13 := Lib.hid hv13'
  have HC1' := Lib.hid hcv2
  clear hcv2
  have hcv2 : (convert 9 114 (.string ⟨#[92, 92]⟩)).run Tryz.prog (w13.setCell ⟨B, 256, none⟩ (.slice a13 2 c13)) = .ok (.slice (some ⟨w13.heap.size, 0, none⟩) 2 k2) W15 := HC1'.out
  clear HC1' hv13 hg13 ho13 hb13 hs15 hk15 hk13 hs13 hv13' hb15 hcv b92 b256 f256 d0 d1 HK14 HO14 HB14 HS14 HO12 HB12 HK12 HS12
  go_wp2_with fail
  rw [rounds_succ]
  go_wp2_with fail
  go_ret
  have hK := HK15.out.st 92 (.slice (some ⟨w13.heap.size, 0, none⟩) 2 k2)
  have hB' : w.heap.size ≤ B := by omega
  refine ⟨B, rfl, HB15.out.setCell (p := ⟨B, 92, none⟩) hB' _, ⟨hB', fun c h1 h2 h3 => ?_, ?_, ?_, ?_⟩⟩
  · refine hK.cell c _ ?_
    rw [Array.getElem?_setIfInBounds_ne (Ne.symm h3), Array.getElem?_setIfInBounds_ne (by omega), Array.getElem?_setIfInBounds_ne (Ne.symm h2), Array.getElem?_setIfInBounds_ne (by omega)]
    exact HC1.out c h1
  · refine ⟨p1, k1, HW9.out, hK.cell 34 _ ?_, HS15.out.setCell (p := ⟨B, 92, none⟩) (by show B ≠ p1; have := HP1.out; omega) _⟩
    rw [Array.getElem?_setIfInBounds_ne (by decide), Array.getElem?_setIfInBounds_ne (by decide)]
    simp [HC3.out]
  · refine ⟨w13.heap.size, k2, by omega, hK.cell 92 _ ?_, HT15.out.setCell (p := ⟨B, 92, none⟩) (by show B ≠ w13.heap.size; omega) _⟩
    simp [HC3.out]
  · obtain ⟨g13, cap13, hv13, hg1, hg2, -⟩ := HO15.out.block (by decide)
    cases hv13
    have hne : (⟨B, 92, none⟩ : Addr).block ≠ g13 := fun e => HV13.out g13 rfl e.symm
    exact ⟨g13, _, hg1, hK.cell 256 _ (by rw [Array.getElem?_setIfInBounds_ne (by decide)]; simp [HC3.out]), HO15.out.sl.2.setCell hne _⟩
end Go.Proofs.YtampdbkafkcfdaaGreatDoor
