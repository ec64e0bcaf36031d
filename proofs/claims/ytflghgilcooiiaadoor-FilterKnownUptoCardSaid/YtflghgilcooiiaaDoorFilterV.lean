/-
  The walk of knownPairs and of FilterKnown.
-/
import Derived.Test.YtflghgilcooiiaaDoorFilterU
import Derived.Test.YtflghgilcooiiaaDoorFilterQ
import Derived.Test.YtflghgilcooiiaaDoorFilterB
import Derived.Deep.RegionLaw
namespace Go.Proofs.YtflghgilcooiiaaDoor
set_option linter.unusedVariables false
open Go.RowKit

def enU (n : Nat) : List Value := [.int .u32 n]
def bitsL : List Nat := [0, 1, 1024, 1025, 2048, 2049, 268435456, 536870912, 2147483648, 4294967295]
def pairR (j : Nat) : RuleD := ⟨(j / 10 + j % 10) % 2 == 0, bitsL.getD (j / 10) 0, bitsL.getD (j % 10) 0⟩
def pairsL (c : Nat) : List RuleD := (List.range c).map pairR
theorem pairsL_len (c : Nat) : (pairsL c).length = c := by simp [pairsL]
theorem pairsL_snoc (c : Nat) : pairsL (c + 1) = pairsL c ++ [pairR c] := range_snoc _ _
theorem bits_lt (j : Nat) : bitsL.getD j 0 < 4294967296 := by
  have h : ∀ x ∈ bitsL, x < 4294967296 := by decide
  by_cases hj : j < bitsL.length
  · rw [show bitsL.getD j 0 = bitsL[j] by simp [List.getD, hj]]
    exact h _ (List.getElem_mem hj)
  · rw [show bitsL.getD j 0 = 0 by simp [List.getD, List.getElem?_eq_none (Nat.le_of_not_lt hj)]]
    decide
theorem pairR_ok (j : Nat) : okRule (pairR j) := ⟨bits_lt _, bits_lt _⟩
theorem pairsL_ok (c : Nat) : ∀ r ∈ pairsL c, okRule r := fun r hr => by
  obtain ⟨j, _, rfl⟩ := List.mem_map.1 hr
  exact pairR_ok j
theorem pair_at (i k : Nat) (hk : k < 10) : enRule (pairR (10 * i + k)) = [.bool (((i : Int) + (k : Int)).tmod 2 == 0), .int .u32 (bitsL.getD i 0 : Nat), .int .u32 (bitsL.getD k 0 : Nat)] := by
  have e1 : (10 * i + k) / 10 = i := by omega
  have e2 : (10 * i + k) % 10 = k := by omega
  have e3 : (((i : Int) + (k : Int)).tmod 2 == 0) = ((i + k) % 2 == 0) := by
    rw [show ((i : Int) + (k : Int)).tmod 2 = (((i + k) % 2 : Nat) : Int) from rfl, Bool.eq_iff_iff, beq_iff_eq, beq_iff_eq]
    omega
  unfold enRule pairR
  simp only [e1, e2, e3]

set_option maxRecDepth 100000 in
set_option maxHeartbeats 2000000 in
theorem knownPairs_any (w : World) (hno : NoneAt w) :
    Calls Tryd.prog 20 #[] w fun e w' => e = .returned (.bool true) ∧ Below w.heap.size w w' := by
  have hp := hno.pos
  go_enter Tryd.func20, Tryd.ntmps20
  go_wp2_with fail
  have hb0 : Below w.heap.size w (w.alloc (.cells #[.int .u32 0, .int .u32 1, .int .u32 1024, .int .u32 1025, .int .u32 2048, .int .u32 2049, .int .u32 268435456, .int .u32 536870912, .int .u32 2147483648, .int .u32 4294967295] 28)) := below_alloc _ _
  have hbits : SlOf (w.alloc (.cells #[.int .u32 0, .int .u32 1, .int .u32 1024, .int .u32 1025, .int .u32 2048, .int .u32 2049, .int .u32 268435456, .int .u32 536870912, .int .u32 2147483648, .int .u32 4294967295] 28)) enU 1 (some ⟨w.heap.size, 0, none⟩) 10 bitsL := SlOf.lit w enU 1 (fun _ => rfl) _ _ _ 10 rfl rfl (by decide)
  generalize w.alloc (.cells #[.int .u32 0, .int .u32 1, .int .u32 1024, .int .u32 1025, .int .u32 2048, .int .u32 2049, .int .u32 268435456, .int .u32 536870912, .int .u32 2147483648, .int .u32 4294967295] 28) = w1 at *
  have hsz1 := hb0.size
  go_loopw [2, 3] (fun v x wr => ∃ i : Nat, i ≤ 10 ∧ x = .int .i64 (i : Nat) ∧ Below w1.heap.size w1 wr ∧ Owns wr w1.heap.size 38 3 enRule v (pairsL (10 * i))) (fun _ x _ => 10 - (intOf x).toNat)
  case atStart => exact ⟨0, by omega, rfl, Below.refl _ _, Owns.nil _ _ _ _ _⟩
  case round =>
    obtain ⟨i, hi, rfl, hbi, hoi⟩ := hrel
    by_cases hltI : (i : Int) < 10
    · have hlt : i < 10 := by omega
      go_wp2_with fail
      go_loopw [2, 4] (fun v x wr => ∃ k : Nat, k ≤ 10 ∧ x = .int .i64 (k : Nat) ∧ Below w1.heap.size w1 wr ∧ Owns wr w1.heap.size 38 3 enRule v (pairsL (10 * i + k))) (fun _ x _ => 10 - (intOf x).toNat)
      case atStart => exact ⟨0, by omega, rfl, hbi, hoi⟩
      case round =>
        clear hbi hoi
        obtain ⟨k, hk, rfl, hbk, hok⟩ := hrel
        by_cases hlkI : (k : Int) < 10
        · have hlk : k < 10 := by omega
          have EW : Hid (IntKind.i64.wrap ((i : Int) + (k : Int)) = (i : Int) + (k : Int)) := Lib.hid (by unfold IntKind.wrap; simp [IntKind.bits, IntKind.signed]; omega)
          obtain ⟨bl, ol, e, hbl, hc0⟩ := SlOf.cell1 (SlOf.keep hbits hbk (Nat.le_refl _)) (fun n : Nat => Value.int .u32 n) (fun _ => rfl) (k := i) (by simpa [bitsL] using hlt)
          cases e
          obtain ⟨bl, ol, e, _, hc1⟩ := SlOf.cell1 (SlOf.keep hbits hbk (Nat.le_refl _)) (fun n : Nat => Value.int .u32 n) (fun _ => rfl) (k := k) (by simpa [bitsL] using hlk)
          cases e
          rw [Nat.zero_add] at hc0 hc1
          rw [show bitsL[i]'(by simpa [bitsL] using hlt) = bitsL.getD i 0 by simp [List.getD, bitsL, hlt]] at hc0
          rw [show bitsL[k]'(by simpa [bitsL] using hlk) = bitsL.getD k 0 by simp [List.getD, bitsL, hlk]] at hc1
          have HP := Lib.hid (pair_at i k hlk)
          have HS := Lib.hid (pairsL_snoc (10 * i + k))
          obtain ⟨av, cv, hv, hsv⟩ := hok.shape
          rw [pairsL_len] at hv
          subst hv
          have hln := pairsL_len (10 * i + k)
          have hok2 := bits_lt i
          generalize pairR (10 * i + k) = pr at *
          generalize bitsL.getD i 0 = bi at *
          generalize bitsL.getD k 0 = bk at *
          go_wp2_with fail
          go_region_law (refine step_append_elem rules_ty (pairsL (10 * i + k)) pr (w0 := w1) (base := w1.heap.size) (g := wr.heap.size) ((hok.alloc _).drew) ((hbk.alloc hbk.size _).drew) (Nat.le_refl _) (by rw [hln]; omega) (heap_alloc_new wr _) (fun z' w3 hz3 hb3 hg3 hv3 => ?_) (hy := by rw [HP.out, EW.out]) (hone := by rw [HP.out]; simp [Value.oneCell']))
          all_goals
            go_wp2_with fail
            go_roundw
            case rel => exact ⟨k + 1, by omega, by go_num, hb3, by rw [show 10 * i + (k + 1) = 10 * i + k + 1 from rfl, HS.out]; exact hz3⟩
            case measure => simp [intOf]; omega
        · obtain rfl : k = 10 := by omega
          go_wp2_with fail
          go_roundw
          case rel => exact ⟨i + 1, by omega, by go_num, hbk, hok⟩
          case measure => simp [intOf]; omega
    · obtain rfl : i = 10 := by omega
      have hbw := bstep hb0 hbi (Nat.le_refl _)
      obtain ⟨aL, cL, rfl, hsL⟩ := hoi.shape
      have hLok := pairsL_ok (10 * 10)
      have hLn := pairsL_len (10 * 10)
      clear hbits hb0 hbi hoi
      rw [hLn]
      have hln := hsL.len
      rw [hLn] at hln
      have HOK := Lib.hid hLok
      have HLN := Lib.hid hLn
      clear hLok hLn
      obtain ⟨wq, hwq⟩ : ∃ x, x = wr := ⟨_, rfl⟩
      subst hwq
      have hszq := hbw.size
      generalize pairsL (10 * 10) = L at *
      go_wp2_with fail
      go_loopw [5] (fun x wr => ∃ i : Nat, i ≤ 100 ∧ x = .int .i64 (i : Nat) ∧ Below wq.heap.size wq wr) (fun x _ => 100 - (intOf x).toNat)
      case atStart => exact ⟨0, by omega, rfl, Below.refl _ _⟩
      case round =>
        obtain ⟨i, hi, rfl, hbi⟩ := hrel
        by_cases hltI : (i : Int) < 100
        · have hlt : i < 100 := by omega
          go_wp2_with fail
          go_loopw [6] (fun x wr => ∃ k : Nat, k ≤ 100 ∧ x = .int .i64 (k : Nat) ∧ Below wq.heap.size wq wr) (fun x _ => 100 - (intOf x).toNat)
          case atStart => exact ⟨0, by omega, rfl, hbi⟩
          case round =>
            clear hbi
            obtain ⟨k, hk, rfl, hbk⟩ := hrel
            by_cases hlkI : (k : Int) < 100
            · have hlk : k < 100 := by omega
              obtain ⟨ba, oa, rfl, hba, hc0, hc1, hc2⟩ := SlR.at (hsL.keep hbk (Nat.le_refl _)) (k := i) (by rw [HLN.out]; omega)
              obtain ⟨ba', oa', e, hba', hd0, hd1, hd2⟩ := SlR.at (hsL.keep hbk (Nat.le_refl _)) (k := k) (by rw [HLN.out]; omega)
              cases e
              have hmod : i * k % 100 < 100 := Nat.mod_lt _ (by decide)
              obtain ⟨ba', oa', e, hba', he0, he1, he2⟩ := SlR.at (hsL.keep hbk (Nat.le_refl _)) (k := i * k % 100) (by rw [HLN.out]; omega)
              cases e
              have hik : i * k < 10000 := Nat.lt_of_lt_of_le (Nat.mul_lt_mul'' hlt hlk) (by decide)
              have okI := HOK.out _ (List.getElem_mem (show i < L.length by rw [HLN.out]; omega))
              have okK := HOK.out _ (List.getElem_mem (show k < L.length by rw [HLN.out]; omega))
              have okM := HOK.out _ (List.getElem_mem (show i * k % 100 < L.length by rw [HLN.out]; omega))
              have htm : ((i : Int) * (k : Int)).tmod 100 = ((i * k % 100 : Nat) : Int) := rfl
              generalize L[i]'(by rw [HLN.out]; omega) = ri at *
              generalize L[k]'(by rw [HLN.out]; omega) = rk at *
              generalize L[i * k % 100]'(by rw [HLN.out]; omega) = rm at *
              generalize i * k % 100 = im at *
              have HIK := Lib.hid hik
              go_wp2_with fail
              go_still_tail 8, (by kernel_rfl)
              change wpList _ _ _ _ _ wr.drew
              go_wp2_with fail
              have hlit : SlR ((wr.alloc (.cells #[.bool ri.wide, .int .u32 ri.code, .int .u32 ri.mask, .bool rk.wide, .int .u32 rk.code, .int .u32 rk.mask] 38)).drew) (some ⟨wr.heap.size, 0, none⟩) 2 [ri, rk] := (SlOf.lit wr enRule 3 (fun _ => rfl) [ri, rk] _ _ 2 rfl rfl (by decide)).drew
              have hb2 : Below wr.heap.size wr ((wr.alloc (.cells #[.bool ri.wide, .int .u32 ri.code, .int .u32 ri.mask, .bool rk.wide, .int .u32 rk.code, .int .u32 rk.mask] 38)).drew) := (below_alloc _ _).drew
              have hb3 := bstep hbk hb2 (Nat.le_refl _)
              have HE0 := Lib.hid (cell_keep' he0 hb2)
              have HE1 := Lib.hid (cell_keep' he1 hb2)
              have HE2 := Lib.hid (cell_keep' he2 hb2)
              have hokT : ∀ r ∈ [ri, rk], okRule r := fun r hr => by
                simp only [List.mem_cons, List.not_mem_nil, or_false] at hr
                rcases hr with rfl | rfl
                · exact okI
                · exact okK
              have HOT := Lib.hid hokT
              have HMK := Lib.hid okM.2
              clear hc0 hc1 hc2 hd0 hd1 hd2 he0 he1 he2 hb2 hbk okI okK okM hokT
              generalize (wr.alloc (.cells #[.bool ri.wide, .int .u32 ri.code, .int .u32 ri.mask, .bool rk.wide, .int .u32 rk.code, .int .u32 rk.mask] 38)).drew = w2 at *
              have hb4 := bstep hbw hb3 (Nat.le_refl _)
              refine (filterLess_walk [ri, rk] HOT.out _ 2 _ (hno.keep hb4 hp) hlit (by simp)).mono ?_
              rintro e w3 ⟨rfl, hb5⟩
              have hlit3 := hlit.keep hb5 (Nat.le_refl _)
              have hb6 := bstep hb3 hb5 (Nat.le_refl _)
              have he0 := cell_keep' HE0.out hb5
              have he1 := cell_keep' HE1.out hb5
              have he2 := cell_keep' HE2.out hb5
              have hba3 := World.block_lt_of_cell? w3 _ he0
              have hmul : IntKind.i64.wrap ((i : Int) * (k : Int)) = (i : Int) * (k : Int) := by
                have h1 := HIK.out
                rw [show (i : Int) * (k : Int) = ((i * k : Nat) : Int) by simp]
                generalize i * k = q at *
                unfold IntKind.wrap; simp [IntKind.bits, IntKind.signed]; omega
              clear HE0 HE1 HE2 hlit hb3 hb4 hb5
              go_wp2_with fail
              refine (filterTakes_walk [ri, rk] HOT.out _ 2 rm.mask HMK.out _ [] none 0 _ hlit3 (by simp) (SlOf.nil _ _ _) (by simp)).mono ?_
              rintro e w4 ⟨rfl, hb7⟩
              have hb8 := bstep hb6 hb7 (Nat.le_refl _)
              clear hlit3 hb6 hb7 he0 he1 he2
              go_wp2_with fail
              go_roundw
              case rel => exact ⟨k + 1, by omega, by go_num, hb8⟩
              case measure => simp [intOf]; omega
            · obtain rfl : k = 100 := by omega
              go_wp2_with fail
              go_roundw
              case rel => exact ⟨i + 1, by omega, by go_num, hbk⟩
              case measure => simp [intOf]; omega
        · obtain rfl : i = 100 := by omega
          have hbw2 := bstep hbw hbi (Nat.le_refl _)
          have hsL2 := hsL.keep hbi (Nat.le_refl _)
          obtain ⟨wp, hwp⟩ : ∃ x, x = wr := ⟨_, rfl⟩
          subst hwp
          clear hbw hbi hsL
          go_wp2_with fail
          go_loopw [8] (fun x wr => ∃ i : Nat, i ≤ 96 ∧ x = .int .i64 (i : Nat) ∧ Below wp.heap.size wp wr) (fun x _ => 96 - (intOf x).toNat)
          case atStart => exact ⟨0, by omega, rfl, Below.refl _ _⟩
          case round =>
            obtain ⟨i, hi, rfl, hbi⟩ := hrel
            by_cases hltI : (i : Int) + 4 < 100
            · have hlt : i < 96 := by omega
              obtain ⟨ws, hws⟩ : ∃ x, x = wr := ⟨_, rfl⟩
              subst hws
              have HBS := Lib.hid (bstep hbw2 hbi (Nat.le_refl _))
              have hszs := HBS.out.size
              obtain ⟨ba, oa, rfl, hba, hc0, hc1, hc2⟩ := SlR.at (hsL2.keep hbi (Nat.le_refl _)) (k := i) (by rw [HLN.out]; omega)
              have HMK := Lib.hid (HOK.out _ (List.getElem_mem (show i < L.length by rw [HLN.out]; omega))).2
              generalize (L[i]'(by rw [HLN.out]; omega)).mask = mk at *
              have hLL : SlR ws (some ⟨ba, oa + i * 3, none⟩) (cL - i) ((L.drop i).take 4) := by
                have h1 := SlOf.suf (hsL2.keep hbi (Nat.le_refl _)) (fun _ => rfl) i (by rw [HLN.out]; omega)
                exact SlOf.pre (ys := (L.drop i).drop 4) (by rw [List.take_append_drop]; exact h1) (fun _ => rfl)
              have HLL := Lib.hid (fun r (hr : r ∈ (L.drop i).take 4) => HOK.out r (List.mem_of_mem_drop (List.mem_of_mem_take hr)))
              have HL4 : Hid (((L.drop i).take 4).length = 4) := Lib.hid (by rw [List.length_take, List.length_drop, HLN.out]; omega)
              have HLR : Hid (((L.drop i).take 4).length * 12 ≤ 140737488351232) := Lib.hid (by rw [HL4.out]; decide)
              generalize (L.drop i).take 4 = LL at *
              have hwr : IntKind.i64.wrap ((i : Int) + 4) = (i : Int) + 4 := by unfold IntKind.wrap; simp [IntKind.bits, IntKind.signed]; omega
              have hk0 : 0 ≤ IntKind.i64.wrap ((i : Int) + 4) ∧ IntKind.i64.wrap ((i : Int) + 4) ≤ cL := by rw [hwr]; omega
              have hkt : (IntKind.i64.wrap ((i : Int) + 4)).toNat = i + 4 := by rw [hwr]; omega
              have hk2 : i ≤ i + 4 := by omega
              have hk3 : ¬ cL = i := by omega
              have hk4 : (i : Int) < 100 := by omega
              clear hwr
              go_wp2_with fail
              refine wp_region_held_drew (S := (fun (w' : World) => Below ws.heap.size ws w' ∧ w'.cell? ⟨ba, oa + i * 3 + 2, none⟩ = some (.int .u32 mk))) (by kernel_rfl) ⟨(Below.refl _ _).drew, hc2⟩ (fun hHeld => ?_)
              refine held_take 0 (v := ?_) rfl (by kernel_rfl) (by kernel_rfl) (by kernel_rfl) (fun _ _ _ h => h) (by assumption) ?_ ?_
              rotate_left
              · first | (refine Or.inr ⟨?_, ?_⟩ <;> rfl) | (refine Or.inl ⟨by rfl, ?_⟩; intro w hSw; (try dsimp only at hSw); first | (go_simp; done) | (go_simp; with_reducible rfl) | (go_simp; rw [if_pos hk0, hkt, if_pos hk2, if_neg hk3]) | (go_simp; rw [if_pos hk4]))
              try simp only [Act.put, List.setIfInBounds_toArray, List.set_cons_zero, List.set_cons_succ]
              refine held_take 1 (v := ?_) rfl (by kernel_rfl) (by kernel_rfl) (by kernel_rfl) (fun _ _ _ h => h) (by assumption) ?_ ?_
              rotate_left
              · first | (refine Or.inr ⟨?_, ?_⟩ <;> rfl) | (refine Or.inl ⟨by rfl, ?_⟩; intro w hSw; (try dsimp only at hSw); first | (go_simp; done) | (go_simp; with_reducible rfl) | (go_simp; rw [if_pos hk0, hkt, if_pos hk2, if_neg hk3]) | (go_simp; rw [if_pos hk4]))
              try simp only [Act.put, List.setIfInBounds_toArray, List.set_cons_zero, List.set_cons_succ]
              refine held_take 2 (v := ?_) rfl (by kernel_rfl) (by kernel_rfl) (by kernel_rfl) (fun _ _ _ h => h) (by assumption) ?_ ?_
              rotate_left
              · first | (refine Or.inr ⟨?_, ?_⟩ <;> rfl) | (refine Or.inl ⟨by rfl, ?_⟩; intro w hSw; (try dsimp only at hSw); first | (go_simp; done) | (go_simp; with_reducible rfl) | (go_simp; rw [if_pos hk0, hkt, if_pos hk2, if_neg hk3]) | (go_simp; rw [if_pos hk4]))
              try simp only [Act.put, List.setIfInBounds_toArray, List.set_cons_zero, List.set_cons_succ]
              refine held_take 3 (v := ?_) rfl (by kernel_rfl) (by kernel_rfl) (by kernel_rfl) (fun _ _ _ h => h) (by assumption) ?_ ?_
              rotate_left
              · first | (refine Or.inr ⟨?_, ?_⟩ <;> rfl) | (refine Or.inl ⟨by rfl, ?_⟩; intro w hSw; (try dsimp only at hSw); first | (go_simp; done) | (go_simp; with_reducible rfl) | (go_simp; rw [if_pos hk0, hkt, if_pos hk2, if_neg hk3]) | (go_simp; rw [if_pos hk4]))
              try simp only [Act.put, List.setIfInBounds_toArray, List.set_cons_zero, List.set_cons_succ]
              refine held_take 4 (v := ?_) rfl (by kernel_rfl) (by kernel_rfl) (by kernel_rfl) (fun _ _ _ h => h) (by assumption) ?_ ?_
              rotate_left
              · first | (refine Or.inr ⟨?_, ?_⟩ <;> rfl) | (refine Or.inl ⟨by rfl, ?_⟩; intro w hSw; (try dsimp only at hSw); first | (go_simp; done) | (go_simp; with_reducible rfl) | (go_simp; rw [if_pos hk0, hkt, if_pos hk2, if_neg hk3]) | (go_simp; rw [if_pos hk4]))
              try simp only [Act.put, List.setIfInBounds_toArray, List.set_cons_zero, List.set_cons_succ]
              refine held_call 5 rfl (by kernel_rfl) (fun K hK => ?_)
              go_simp
              have hcall := filterNeeded_walk LL HLL.out _ _ _ (hno.keep (HBS.out.trans (hHeld.1.mono hszs)) hp) (SlOf.keep hLL hHeld.1 (Nat.le_refl _)) HLR.out
              rw [HL4.out] at hcall
              with_reducible refine hcall.mono ?_
              rintro e w' ⟨rfl, hb'⟩
              refine hK.out _ _ ?_ (fun hHeld => ?_)
              · exact ⟨bstep hHeld.1 hb' (Nat.le_refl _), cell_keep' hHeld.2 hb'⟩
              clear hK K
              try simp only [Act.put, List.setIfInBounds_toArray, List.set_cons_zero, List.set_cons_succ]
              refine held_take 6 (v := ?_) rfl (by kernel_rfl) (by kernel_rfl) (by kernel_rfl) (fun _ _ _ h => h) (by assumption) ?_ ?_
              rotate_left
              · first | (refine Or.inr ⟨?_, ?_⟩ <;> rfl) | (refine Or.inl ⟨by rfl, ?_⟩; intro w hSw; (try dsimp only at hSw); first | (go_simp; done) | (go_simp; with_reducible rfl) | (go_simp; rw [if_pos hk0, hkt, if_pos hk2, if_neg hk3]) | (go_simp; rw [if_pos hk4]))
              try simp only [Act.put, List.setIfInBounds_toArray, List.set_cons_zero, List.set_cons_succ]
              refine held_take 7 (v := ?_) rfl (by kernel_rfl) (by kernel_rfl) (by kernel_rfl) (fun _ _ _ h => h) (by assumption) ?_ ?_
              rotate_left
              · first | (refine Or.inr ⟨?_, ?_⟩ <;> rfl) | (refine Or.inl ⟨by rfl, ?_⟩; intro w hSw; (try dsimp only at hSw); first | (go_simp; done) | (go_simp; with_reducible rfl) | (go_simp; rw [if_pos hk0, hkt, if_pos hk2, if_neg hk3]) | (go_simp; rw [if_pos hk4]))
              try simp only [Act.put, List.setIfInBounds_toArray, List.set_cons_zero, List.set_cons_succ]
              refine held_take 8 (v := ?_) rfl (by kernel_rfl) (by kernel_rfl) (by kernel_rfl) (fun _ _ _ h => h) (by assumption) ?_ ?_
              rotate_left
              · first | (refine Or.inr ⟨?_, ?_⟩ <;> rfl) | (refine Or.inl ⟨by rfl, ?_⟩; intro w hSw; (try dsimp only at hSw); first | (go_simp; done) | (go_simp; with_reducible rfl) | (go_simp; rw [if_pos hk0, hkt, if_pos hk2, if_neg hk3]) | (go_simp; rw [if_pos hk4]))
              try simp only [Act.put, List.setIfInBounds_toArray, List.set_cons_zero, List.set_cons_succ]
              refine held_take 9 (v := ?_) rfl (by kernel_rfl) (by kernel_rfl) (by kernel_rfl) (fun _ _ _ h => h) (by assumption) ?_ ?_
              rotate_left
              · first | (refine Or.inr ⟨?_, ?_⟩ <;> rfl) | (refine Or.inl ⟨by rfl, ?_⟩; intro w hSw; (try dsimp only at hSw); first | (go_simp; done) | (go_simp; with_reducible rfl) | (go_simp; rw [if_pos hk0, hkt, if_pos hk2, if_neg hk3]) | (go_simp; rw [if_pos hk4]))
              try simp only [Act.put, List.setIfInBounds_toArray, List.set_cons_zero, List.set_cons_succ]
              refine held_take 10 (v := ?_) rfl (by kernel_rfl) (by kernel_rfl) (by kernel_rfl) (fun _ _ _ h => h) (by assumption) ?_ ?_
              rotate_left
              · first | (refine Or.inr ⟨?_, ?_⟩ <;> rfl) | (refine Or.inl ⟨by rfl, ?_⟩; intro w hSw; (try dsimp only at hSw); first | (go_simp; done) | (go_simp; with_reducible rfl) | (go_simp; rw [if_pos hk0, hkt, if_pos hk2, if_neg hk3]) | (go_simp; rw [if_pos hk4]))
              try simp only [Act.put, List.setIfInBounds_toArray, List.set_cons_zero, List.set_cons_succ]
              refine held_take 11 (v := ?_) rfl (by kernel_rfl) (by kernel_rfl) (by kernel_rfl) (fun _ _ _ h => h) (by assumption) ?_ ?_
              rotate_left
              · first | (refine Or.inr ⟨?_, ?_⟩ <;> rfl) | (refine Or.inl ⟨by rfl, ?_⟩; intro w hSw; (try dsimp only at hSw); first | (go_simp; done) | (go_simp; with_reducible rfl) | (go_simp; rw [if_pos hk0, hkt, if_pos hk2, if_neg hk3]) | (go_simp; rw [if_pos hk4]))
              try simp only [Act.put, List.setIfInBounds_toArray, List.set_cons_zero, List.set_cons_succ]
              refine held_take 12 (v := ?_) rfl (by kernel_rfl) (by kernel_rfl) (by kernel_rfl) (fun _ _ _ h => h) (by assumption) ?_ ?_
              rotate_left
              · first | (refine Or.inr ⟨?_, ?_⟩ <;> rfl) | (refine Or.inl ⟨by rfl, ?_⟩; intro w hSw; (try dsimp only at hSw); first | (go_simp; done) | (go_simp; with_reducible rfl) | (go_simp; rw [if_pos hk0, hkt, if_pos hk2, if_neg hk3]) | (go_simp; rw [if_pos hk4]))
              try simp only [Act.put, List.setIfInBounds_toArray, List.set_cons_zero, List.set_cons_succ]
              refine held_take 13 (v := ?_) rfl (by kernel_rfl) (by kernel_rfl) (by kernel_rfl) (fun _ _ _ h => h) (by assumption) ?_ ?_
              rotate_left
              · first | (refine Or.inr ⟨?_, ?_⟩ <;> rfl) | (refine Or.inl ⟨by rfl, ?_⟩; intro w hSw; (try dsimp only at hSw); first | (go_simp; done) | (go_simp; with_reducible rfl) | (go_simp; rw [if_pos hk0, hkt, if_pos hk2, if_neg hk3]) | (go_simp; rw [if_pos hk4]))
              try simp only [Act.put, List.setIfInBounds_toArray, List.set_cons_zero, List.set_cons_succ]
              refine held_take 14 (v := ?_) rfl (by kernel_rfl) (by kernel_rfl) (by kernel_rfl) (fun _ _ _ h => h) (by assumption) ?_ ?_
              rotate_left
              · first | (refine Or.inr ⟨?_, ?_⟩ <;> rfl) | (refine Or.inl ⟨by rfl, ?_⟩; intro w hSw; (try dsimp only at hSw); first | (go_simp; done) | (go_simp; with_reducible rfl) | (go_simp; rw [if_pos hk0, hkt, if_pos hk2, if_neg hk3]) | (go_simp; rw [if_pos hk4]))
              try simp only [Act.put, List.setIfInBounds_toArray, List.set_cons_zero, List.set_cons_succ]
              refine held_take 15 (v := ?_) rfl (by kernel_rfl) (by kernel_rfl) (by kernel_rfl) (fun _ _ _ h => h) (by assumption) ?_ ?_
              rotate_left
              · first | (refine Or.inr ⟨?_, ?_⟩ <;> rfl) | (refine Or.inl ⟨by rfl, ?_⟩; intro w hSw; (try dsimp only at hSw); first | (go_simp; done) | (go_simp; with_reducible rfl) | (go_simp; rw [if_pos hk0, hkt, if_pos hk2, if_neg hk3]) | (go_simp; rw [if_pos hk4]))
              try simp only [Act.put, List.setIfInBounds_toArray, List.set_cons_zero, List.set_cons_succ]
              refine held_take 16 (v := ?_) rfl (by kernel_rfl) (by kernel_rfl) (by kernel_rfl) (fun _ _ _ h => h) (by assumption) ?_ ?_
              rotate_left
              · first | (refine Or.inr ⟨?_, ?_⟩ <;> rfl) | (refine Or.inl ⟨by rfl, ?_⟩; intro w hSw; (try dsimp only at hSw); first | (go_simp; done) | (go_simp; with_reducible rfl) | (go_simp; rw [if_pos hk0, hkt, if_pos hk2, if_neg hk3]) | (go_simp; rw [if_pos hk4]))
              try simp only [Act.put, List.setIfInBounds_toArray, List.set_cons_zero, List.set_cons_succ]
              refine held_take 17 (v := ?_) rfl (by kernel_rfl) (by kernel_rfl) (by kernel_rfl) (fun _ _ _ h => h) (by assumption) ?_ ?_
              rotate_left
              · first | (refine Or.inr ⟨?_, ?_⟩ <;> rfl) | (refine Or.inl ⟨by rfl, ?_⟩; intro w hSw; (try dsimp only at hSw); first | (go_simp; done) | (go_simp; with_reducible rfl) | (go_simp; rw [if_pos hk0, hkt, if_pos hk2, if_neg hk3]) | (go_simp; rw [if_pos hk4]))
              try simp only [Act.put, List.setIfInBounds_toArray, List.set_cons_zero, List.set_cons_succ]
              refine held_take 18 (v := ?_) rfl (by kernel_rfl) (by kernel_rfl) (by kernel_rfl) (fun _ _ _ h => h) (by assumption) ?_ ?_
              rotate_left
              · first | (refine Or.inr ⟨?_, ?_⟩ <;> rfl) | (refine Or.inl ⟨by rfl, ?_⟩; intro w hSw; (try dsimp only at hSw); first | (go_simp; done) | (go_simp; with_reducible rfl) | (go_simp; rw [if_pos hk0, hkt, if_pos hk2, if_neg hk3]) | (go_simp; rw [if_pos hk4]))
              try simp only [Act.put, List.setIfInBounds_toArray, List.set_cons_zero, List.set_cons_succ]
              refine held_take 19 (v := ?_) rfl (by kernel_rfl) (by kernel_rfl) (by kernel_rfl) (fun _ _ _ h => h) (by assumption) ?_ ?_
              rotate_left
              · first | (refine Or.inr ⟨?_, ?_⟩ <;> rfl) | (refine Or.inl ⟨by rfl, ?_⟩; intro w hSw; (try dsimp only at hSw); first | (go_simp; done) | (go_simp; with_reducible rfl) | (go_simp; rw [if_pos hk0, hkt, if_pos hk2, if_neg hk3]) | (go_simp; rw [if_pos hk4]))
              try simp only [Act.put, List.setIfInBounds_toArray, List.set_cons_zero, List.set_cons_succ]
              refine held_take 20 (v := ?_) rfl (by kernel_rfl) (by kernel_rfl) (by kernel_rfl) (fun _ _ _ h => h) (by assumption) ?_ ?_
              rotate_left
              · first | (refine Or.inr ⟨?_, ?_⟩ <;> rfl) | (refine Or.inl ⟨by rfl, ?_⟩; intro w hSw; (try dsimp only at hSw); first | (go_simp; done) | (go_simp; with_reducible rfl) | (go_simp; rw [if_pos hk0, hkt, if_pos hk2, if_neg hk3]) | (go_simp; rw [if_pos hk4]))
              try simp only [Act.put, List.setIfInBounds_toArray, List.set_cons_zero, List.set_cons_succ]
              refine held_call 21 rfl (by kernel_rfl) (fun K hK => ?_)
              go_simp
              have hcall := fun b => filterSame_walk LL HLL.out _ _ mk HMK.out b _ (hno.keep (HBS.out.trans (hHeld.1.mono hszs)) hp) (SlOf.keep hLL hHeld.1 (Nat.le_refl _)) HLR.out
              rw [HL4.out] at hcall
              with_reducible refine (hcall _).mono ?_
              rintro e w' ⟨rfl, hb'⟩
              refine hK.out _ _ ?_ (fun hHeld => ?_)
              · exact ⟨bstep hHeld.1 hb' (Nat.le_refl _), cell_keep' hHeld.2 hb'⟩
              clear hK K
              try simp only [Act.put, List.setIfInBounds_toArray, List.set_cons_zero, List.set_cons_succ]
              refine held_take 22 (v := ?_) rfl (by kernel_rfl) (by kernel_rfl) (by kernel_rfl) (fun _ _ _ h => h) (by assumption) ?_ ?_
              rotate_left
              · first | (refine Or.inr ⟨?_, ?_⟩ <;> rfl) | (refine Or.inl ⟨by rfl, ?_⟩; intro w hSw; (try dsimp only at hSw); first | (go_simp; done) | (go_simp; with_reducible rfl) | (go_simp; rw [if_pos hk0, hkt, if_pos hk2, if_neg hk3]) | (go_simp; rw [if_pos hk4]))
              try simp only [Act.put, List.setIfInBounds_toArray, List.set_cons_zero, List.set_cons_succ]
              refine held_take 23 (v := ?_) rfl (by kernel_rfl) (by kernel_rfl) (by kernel_rfl) (fun _ _ _ h => h) (by assumption) ?_ ?_
              rotate_left
              · first | (refine Or.inr ⟨?_, ?_⟩ <;> rfl) | (refine Or.inl ⟨by rfl, ?_⟩; intro w hSw; (try dsimp only at hSw); first | (go_simp; done) | (go_simp; with_reducible rfl) | (go_simp; rw [if_pos hk0, hkt, if_pos hk2, if_neg hk3]) | (go_simp; rw [if_pos hk4]))
              try simp only [Act.put, List.setIfInBounds_toArray, List.set_cons_zero, List.set_cons_succ]
              refine wpAnyH_done (by kernel_rfl) ?_ _
              have HB := Lib.hid (hbi.trans (hHeld.1.mono hbi.size))
              go_wp2_with fail
              go_roundw
              case rel => exact ⟨i + 1, by omega, by go_num, HB.out⟩
              case measure => simp [intOf]; omega
            · obtain rfl : i = 96 := by omega
              go_wp2_with fail
              go_ret
              exact ⟨rfl, bstep hbw2 hbi (Nat.le_refl _)⟩

set_option maxRecDepth 100000 in
set_option maxHeartbeats 1000000 in
theorem filterKnown_walk (w : World) (hno : NoneAt w) :
    Calls Tryd.prog 7 #[] w fun e w' => e = .returned (.bool true) ∧ Below w.heap.size w w' := by
  have hp := hno.pos
  go_enter Tryd.func7, Tryd.ntmps7
  go_wp2_with fail
  refine (knownSaid_any _ hno).mono ?_
  rintro e w1 ⟨rfl, hb1⟩
  go_wp2_with fail
  refine (knownPairs_any _ (hno.keep hb1 hp)).mono ?_
  rintro e w2 ⟨rfl, hb2⟩
  go_wp2_with fail
  go_ret
  exact ⟨rfl, bstep hb1 hb2 (Nat.le_refl _)⟩
end Go.Proofs.YtflghgilcooiiaaDoor
