/-
  Contracts of the helpers of the statements on crc: Pick, works, with.
-/
import Derived.Test.YtflghgilcooiiaaCrcB
import Derived.Deep.RegionWith
namespace Go.Proofs.Ytflghgilcooiiaa
set_option linter.unusedVariables false
open Go.RowKit

/-- Pick's number -/
def pickN (k n : Int) : Int := if n < 1 then 0 else k % n
theorem pickN_lo (k n : Int) : 0 ≤ pickN k n := by
  unfold pickN; split
  · omega
  · exact Int.emod_nonneg _ (by omega)
theorem pickN_hi (k n : Int) (h : 1 ≤ n) : pickN k n < n := by
  unfold pickN; rw [if_neg (by omega)]
  exact Int.emod_lt_of_pos _ (by omega)
theorem tmod_fix (k n : Int) (h : 0 < n) : (if k.tmod n < 0 then k.tmod n + n else k.tmod n) = k % n := by
  have h1 := Int.emod_nonneg k (show n ≠ 0 by omega)
  have h2 := Int.emod_lt_of_pos k h
  rw [Int.tmod_eq_emod]
  split <;> split <;> omega

set_option maxHeartbeats 400000 in
theorem pick_any (k n : Int) (w : World) (_hk : -9223372036854775808 ≤ k ∧ k ≤ 9223372036854775807) (hn : n ≤ 9223372036854775807) :
    Calls Try.prog 25 #[.int .i64 k, .int .i64 n] w fun e w' => e = .returned (.int .i64 (pickN k n)) ∧ w = w' := by
  by_cases h1 : n < 1
  · go_enter Try.func25, Try.ntmps25
    go_wp2
    go_ret
    exact ⟨ret_int (by simp [pickN, h1]), rfl⟩
  · have hp : Hid (pickN k n = (if k.tmod n < 0 then k.tmod n + n else k.tmod n)) := by show _ = _; rw [tmod_fix k n (by omega)]; simp [pickN, h1]
    have hn0 : 0 < n := by omega
    have t1 := Int.lt_tmod_of_pos k hn0
    have t2 := Int.tmod_lt_of_pos k hn0
    by_cases h2 : k.tmod n < 0
    all_goals
      go_enter Try.func25, Try.ntmps25
      go_wp2
      go_ret
      exact ⟨ret_int (by rw [hp.out]; first | rw [if_pos h2] | rw [if_neg (by omega)]), rfl⟩

set_option maxHeartbeats 400000 in
theorem works20_any (w : World) :
    Calls Try.prog 26 #[] w fun e w' => e = .returned (.bool true) ∧ Below w.heap.size w w' := by
  have e1 : crcN [true] = 17817 := by decide
  have e2 : crcN [] = 0 := by decide
  go_enter Try.func26, Try.ntmps26
  go_wp2_with fail
  refine (crcsum_any [true] _ _ _ (SlOf.lit w enBool 1 (fun _ => rfl) [true] _ _ 1 rfl rfl (by decide))).mono ?_
  rintro e w1 ⟨rfl, hb1⟩
  go_wp2_with fail
  refine (crcsum_any [] _ _ _ (SlOf.nil _ _ _)).mono ?_
  rintro e w2 ⟨rfl, hb2⟩
  go_wp2_with fail
  go_ret
  exact ⟨rfl, bstep (((Below.refl _ _).alloc (Nat.le_refl _) _).trans (hb1.mono (by simp))) hb2 (Nat.le_refl _)⟩

theorem bit_at (n j : Nat) (h : n < 32768) : (bits BinOp.and IntKind.u16 ((n : Int) / 2 ^ j) 1 == 1) = (n / 2 ^ j % 2 == 1) := by
  have e : ((n : Int) / 2 ^ j) = ((n / 2 ^ j : Nat) : Int) := by simp
  have hle : n / 2 ^ j ≤ n := Nat.div_le_self _ _
  rw [e]
  have h1 := u16_and_nat (n / 2 ^ j) 1 (by omega) (by decide)
  rw [nat_mask1] at h1
  have h2 : bits BinOp.and IntKind.u16 ((n / 2 ^ j : Nat) : Int) 1 = ((n / 2 ^ j % 2 : Nat) : Int) := h1
  rw [h2, Bool.eq_iff_iff]
  simp only [beq_iff_eq]
  omega

set_option maxHeartbeats 400000 in
theorem with20_any (l : List Bool) (a : Option Addr) (cap : Nat) (w : World) (hs : SlB w a cap l) (hr : l.length ≤ 140737488351232) :
    Calls Try.prog 27 #[.slice a l.length cap] w fun e w' => ∃ v, e = .returned v ∧ Below w.heap.size w w' ∧ Owns w' w.heap.size 4 1 enBool v (withN l) := by
  go_enter Try.func27, Try.ntmps27
  go_wp2_with fail
  refine (crcsum_any l _ _ _ hs).mono ?_
  rintro e w1 ⟨rfl, hb0⟩
  go_wp2_with fail
  have hbs := hb0.size
  go_loopw [4, 5] (fun v i wr => ∃ k : Nat, k ≤ l.length ∧ i = .int .i64 k ∧ Owns wr w.heap.size 4 1 enBool v (l.take k) ∧ Below w.heap.size w wr) (fun _ i _ => l.length - (intOf i).toNat)
  case atStart => exact ⟨0, Nat.zero_le _, rfl, Owns.nil _ _ _ _ _, hb0⟩
  case round =>
    obtain ⟨k, hk, rfl, hown, hbel⟩ := hrel
    by_cases hlt : k < l.length
    · obtain ⟨b, o, rfl, hb, hc⟩ := SlB.at (hs.keep hbel (Nat.le_refl _)) hlt
      go_wp2_with (at_builtin; go_loud (refine wpList_append_elem bools_ty (l.take k) l[k] hown hbel (Nat.le_refl _) (by simp; omega) ?_))
      intro v' w1 hown1 hb1
      clear hown hbel hc
      go_wp2
      go_roundw
      case rel => exact ⟨k + 1, by omega, by go_num, hown1, hb1⟩
      case measure => simp [intOf]; omega
    · have : k = l.length := by omega
      subst this
      rw [List.take_length] at hown
      go_wp2_with fail
      go_loopw [4, 6] (fun v i wr' => ∃ k : Nat, k ≤ 15 ∧ i = .int .i64 (14 - (k : Int)) ∧ Owns wr' w.heap.size 4 1 enBool v (l ++ (sumBits (crcN l)).take k) ∧ Below w.heap.size w wr') (fun _ i _ => ((intOf i) + 1).toNat)
      case atStart => exact ⟨0, by omega, rfl, by simpa using hown, hbel⟩
      case round =>
        obtain ⟨k, hk, rfl, hown2, hbel2⟩ := hrel
        by_cases hlt : k < 15
        · have HB : Hid ((sumBits (crcN l)).take (k + 1) = (sumBits (crcN l)).take k ++ [bits BinOp.and IntKind.u16 ((crcN l : Int) / 2 ^ (14 - k)) 1 == 1]) := by
            show _ = _
            rw [take_snoc' _ k (by simp [sumBits]; omega), bit_at _ _ (crcN_lt l)]
            simp [sumBits]
          go_wp2_with (at_builtin; go_loud (refine wpList_append_elem bools_ty _ (bits BinOp.and IntKind.u16 ((crcN l : Int) / 2 ^ (14 - k)) 1 == 1) hown2 hbel2 (Nat.le_refl _) (by simp [sumBits]; omega) ?_))
          intro v' w1 hown1 hb1
          rw [← HB.out] at hown1
          clear hown2 hbel2 hown hbel
          go_wp2
          go_roundw
          case rel => exact ⟨k + 1, by omega, by go_num, hown1, hb1⟩
          case measure => simp [intOf]; omega
        · obtain rfl : k = 15 := by omega
          rw [List.take_of_length_le (by simp [sumBits])] at hown2
          go_wp2_with fail
          go_ret
          exact ⟨_, rfl, hbel2, hown2⟩

theorem with20_n (l : List Bool) (n : Nat) (a : Option Addr) (cap : Nat) (w : World) (hs : SlB w a cap l) (hr : l.length ≤ 140737488351232) (hn : n = l.length) :
    Calls Try.prog 27 #[.slice a n cap] w fun e w' => ∃ v, e = .returned v ∧ Below w.heap.size w w' ∧ Owns w' w.heap.size 4 1 enBool v (withN l) := by
  subst hn; exact with20_any l a cap w hs hr

/-! ### the statement CrcThrough -/
set_option maxHeartbeats 400000 in
theorem crcThrough_walk (l : List Bool) (n : Int) (a : Option Addr) (cap : Nat) (w : World) (hs : SlB w a cap l) (hr : l.length ≤ 140737488351232) (hn : -9223372036854775808 ≤ n ∧ n ≤ 9223372036854775807) :
    Calls Try.prog 6 #[.slice a l.length cap, .int .i64 n] w fun e w' => e = .returned (.bool true) ∧ Below w.heap.size w w' := by
  have hp1 := pickN_lo n 300
  have hp2 := pickN_hi n 300 (by omega)
  obtain ⟨p, hp⟩ := Int.eq_ofNat_of_zero_le hp1
  rw [hp] at hp2
  clear hp1
  have HP := Lib.hid hp
  clear hp
  go_enter Try.func6, Try.ntmps6
  go_wp2_with fail
  go_loopw [5, 6] (fun v i wr => ∃ k : Nat, k ≤ p ∧ i = .int .i64 k ∧ Owns wr w.heap.size 4 1 enBool v (List.replicate k false) ∧ Below w.heap.size w wr) (fun _ i _ => p - (intOf i).toNat)
  case atStart => exact ⟨0, Nat.zero_le _, rfl, Owns.nil _ _ _ _ _, Below.refl _ _⟩
  case round =>
    obtain ⟨k, hk, rfl, hown, hbel⟩ := hrel
    by_cases hlt : k < p
    · go_wp2_with fail
      refine (pick_any n 300 _ hn (by omega)).mono ?_
      rintro e _ ⟨rfl, rfl⟩
      rw [HP.out]
      go_wp2_with (at_builtin; go_loud (refine wpList_append_elem bools_ty _ false hown hbel (Nat.le_refl _) (by simp; omega) ?_))
      intro v' w1 hown1 hb1
      rw [← List.replicate_succ'] at hown1
      clear hown hbel
      go_wp2
      go_roundw
      case rel => exact ⟨k + 1, by omega, by go_num, hown1, hb1⟩
      case measure => simp [intOf]; omega
    · have : k = p := by omega
      subst this
      go_wp2_with fail
      refine (pick_any n 300 _ hn (by omega)).mono ?_
      rintro e _ ⟨rfl, rfl⟩
      rw [HP.out]
      go_wp2_with fail
      go_loopw [5, 7] (fun v i wr' => ∃ j : Nat, j ≤ l.length ∧ i = .int .i64 j ∧ Owns wr' w.heap.size 4 1 enBool v (List.replicate k false ++ l.take j) ∧ Below w.heap.size w wr') (fun _ i _ => l.length - (intOf i).toNat)
      case atStart => exact ⟨0, by omega, rfl, by simpa using hown, hbel⟩
      case round =>
        obtain ⟨j, hj, rfl, hown2, hbel2⟩ := hrel
        by_cases hlt : j < l.length
        · obtain ⟨b, o, rfl, hb, hc⟩ := SlB.at (hs.keep hbel2 (Nat.le_refl _)) hlt
          go_wp2_with (at_builtin; go_loud (refine wpList_append_elem bools_ty _ l[j] hown2 hbel2 (Nat.le_refl _) (by simp; omega) ?_))
          intro v' w1 hown1 hb1
          clear hown2 hbel2 hown hbel hc
          go_wp2
          go_roundw
          case rel => exact ⟨j + 1, by omega, by go_num, hown1, hb1⟩
          case measure => simp [intOf]; omega
        · have : j = l.length := by omega
          subst this
          rw [List.take_length] at hown2
          obtain ⟨va, vc, rfl, hsv⟩ := hown2.shape
          simp only [List.length_append, List.length_replicate] at hown2 ⊢
          have hlt15 : ((crcN l : Nat) : Int) < 32768 := by have := crcN_lt l; omega
          go_wp2_with fail
          refine (works20_any _).mono ?_
          rintro e w2 ⟨rfl, hb2⟩
          have hb3 := bstep hbel2 hb2 (Nat.le_refl _)
          go_wp2_with fail
          refine (with20_any l _ _ _ (hs.keep hb3 (Nat.le_refl _)) hr).mono ?_
          rintro e w3 ⟨v, rfl, hb4, ho4⟩
          have hb5 := bstep hb3 hb4 (Nat.le_refl _)
          obtain ⟨wa, wc, rfl, hsw⟩ := ho4.shape
          go_wp2_with fail
          refine (crcsum_any _ _ _ _ hsw).mono ?_
          rintro e w4 ⟨rfl, hb6⟩
          have hb7 := bstep hb5 hb6 (Nat.le_refl _)
          rw [withN_zero]
          go_wp2_with fail
          refine (crcsum_n _ _ _ _ _ ((((hsv.keep hb2 (Nat.le_refl _)).keep hb4 (Nat.le_refl _)).keep hb6 (Nat.le_refl _))) (by simp)).mono ?_
          rintro e w5 ⟨rfl, hb8⟩
          have hb9 := bstep hb7 hb8 (Nat.le_refl _)
          rw [crcN_ahead]
          go_wp2_with fail
          refine (crcsum_any l _ _ _ (hs.keep hb9 (Nat.le_refl _))).mono ?_
          rintro e w6 ⟨rfl, hb10⟩
          have hb11 := bstep hb9 hb10 (Nat.le_refl _)
          go_wp2_with fail
          refine (crcsum_any l _ _ _ (hs.keep hb11 (Nat.le_refl _))).mono ?_
          rintro e w7 ⟨rfl, hb12⟩
          have hb13 := bstep hb11 hb12 (Nat.le_refl _)
          go_wp2_with fail
          go_ret
          exact ⟨rfl, hb13⟩

/-! ### the statement CrcLinear -/
def lesser (a b : List Bool) : Nat := min a.length b.length

set_option maxHeartbeats 1000000 in
theorem crcLinear_walk (l m : List Bool) (a b : Option Addr) (ca cb : Nat) (w : World) (hs : SlB w a ca l) (ht : SlB w b cb m) (hr : l.length ≤ 140737488351232) :
    Calls Try.prog 7 #[.slice a l.length ca, .slice b m.length cb] w fun e w' => e = .returned (.bool true) ∧ Below w.heap.size w w' := by
  have hl1 := hs.len
  have hl2 := ht.len
  go_enter Try.func7, Try.ntmps7
  go_wp2_with fail
  go_loopw [5, 6, 7, 8] (fun x y z i wr => ∃ k : Nat, k ≤ l.length ∧ k ≤ m.length ∧ i = .int .i64 k ∧ Owns wr w.heap.size 4 1 enBool x (l.take k) ∧ Owns wr w.heap.size 4 1 enBool y (m.take k) ∧
      Owns wr w.heap.size 4 1 enBool z (List.zipWith (· ^^ ·) (l.take k) (m.take k)) ∧ Apart x y ∧ Apart y z ∧ Apart z x ∧ Below w.heap.size w wr) (fun _ _ _ i _ => l.length - (intOf i).toNat)
  case atStart => exact ⟨0, Nat.zero_le _, Nat.zero_le _, rfl, Owns.nil _ _ _ _ _, Owns.nil _ _ _ _ _, Owns.nil _ _ _ _ _, Apart.nil _, Apart.nil _, Apart.nil _, Below.refl _ _⟩
  case round =>
    obtain ⟨k, hk1, hk2, rfl, hx, hy, hz, axy, ayz, azx, hbel⟩ := hrel
    by_cases hlt : k < l.length ∧ k < m.length
    · obtain ⟨hlt1, hlt2⟩ := hlt
      · obtain ⟨ba, oa, rfl, hba, hca⟩ := SlB.at (hs.keep hbel (Nat.le_refl _)) hlt1
        obtain ⟨bb, ob, rfl, hbb, hcb⟩ := SlB.at (ht.keep hbel (Nat.le_refl _)) hlt2
        go_wp2_with (at_builtin; go_loud (refine wpList_append_elem3 bools_ty (l.take k) l[k] hx hbel (Nat.le_refl _) (by simp; omega) ?_))
        intro x' w1 hx1 hb1 hg1 hv1
        have hy1 := hy.other hg1 axy
        have hz1 := hz.other hg1 azx.symm
        have axy1 := axy.app hy hv1
        have azx1 := (azx.symm.app hz hv1).symm
        clear hx hy hz axy azx hbel hg1 hv1 hca hcb
        obtain ⟨bb, ob, e, hbb, hcb⟩ := SlB.at (ht.keep hb1 (Nat.le_refl _)) hlt2
        cases e
        go_wp2_with (at_builtin; go_loud (refine wpList_append_elem3 bools_ty (m.take k) m[k] hy1 hb1 (Nat.le_refl _) (by simp; omega) ?_))
        intro y' w2 hy2 hb2 hg2 hv2
        have hx2 := hx1.other hg2 axy1.symm
        have hz2 := hz1.other hg2 ayz
        have axy2 := (axy1.symm.app hx1 hv2).symm
        have ayz2 := ayz.app hz1 hv2
        clear hx1 hy1 hz1 axy1 ayz hb1 hg2 hv2 hcb
        obtain ⟨ba, oa, e, hba, hca⟩ := SlB.at (hs.keep hb2 (Nat.le_refl _)) hlt1
        cases e
        obtain ⟨bb, ob, e, hbb, hcb⟩ := SlB.at (ht.keep hb2 (Nat.le_refl _)) hlt2
        cases e
        go_wp2_with fail
        have HZ : Hid (List.zipWith (· ^^ ·) (l.take (k + 1)) (m.take (k + 1)) = List.zipWith (· ^^ ·) (l.take k) (m.take k) ++ [!(l[k] == m[k])]) := by
          show _ = _
          rw [take_snoc' l k hlt1, take_snoc' m k hlt2, List.zipWith_append (by simp; omega)]
          have : ∀ a b : Bool, (a ^^ b) = !(a == b) := by decide
          simp [this]
        go_region_law (refine step_append_elem bools_ty (List.zipWith (· ^^ ·) (l.take k) (m.take k)) (!(l[k] == m[k])) (w0 := w) (base := w.heap.size) (g := w2.heap.size) (((hz2.alloc _).drew)) ((hb2.alloc (hb2.size) _).drew) (Nat.le_refl _) (by simp; omega) (heap_alloc_new w2 _) (fun z' w3 hz3 hb3 hg3 hv3 => ?_))
        all_goals
          rw [← HZ.out] at hz3
          have hx3 := (hx2.alloc _).drew.other hg3 azx1
          have hy3 := (hy2.alloc _).drew.other hg3 ayz2.symm
          have azx3 := azx1.app ((hx2.alloc _).drew) hv3
          have ayz3 := (ayz2.symm.app ((hy2.alloc _).drew) hv3).symm
          clear hx2 hy2 hz2 azx1 ayz2 hg3 hv3 hca hcb hb2
          go_wp2_with fail
          go_roundw
          case rel => exact ⟨k + 1, by omega, by omega, by go_num, hx3, hy3, hz3, axy2, ayz3, azx3, hb3⟩
          case measure => simp [intOf]; omega
    · have HE : ((crcN (List.zipWith (· ^^ ·) (l.take k) (m.take k)) : Nat) : Int) = bits .xor .u16 (crcN (l.take k) : Nat) (crcN (m.take k) : Nat) := by
        have h1 := crcN_lt (l.take k)
        have h2 := crcN_lt (m.take k)
        rw [crcN_xor _ _ (by simp; omega), u16_xor_nat _ _ (by omega) (by omega)]
      generalize hcx : crcN (l.take k) = cx at HE
      generalize hcy : crcN (m.take k) = cy at HE
      generalize hcz : crcN (List.zipWith (· ^^ ·) (l.take k) (m.take k)) = cz at HE
      have HX := Lib.hid hcx
      have HY := Lib.hid hcy
      have HZ := Lib.hid hcz
      have HE' := Lib.hid HE
      clear hcx hcy hcz HE
      obtain ⟨xa, xc, rfl, hsx⟩ := hx.shape
      obtain ⟨ya, yc, rfl, hsy⟩ := hy.shape
      obtain ⟨za, zc, rfl, hsz⟩ := hz.shape
      generalize hZ : List.zipWith (· ^^ ·) (l.take k) (m.take k) = Z at hsz HZ ⊢
      generalize hX : l.take k = X at hsx HX ⊢
      generalize hY : m.take k = Y at hsy HY ⊢
      have hlt0 : ¬ (k < l.length ∧ k < m.length) := hlt
      clear hX hY hZ hx hy hz axy ayz azx hlt
      by_cases hlt1 : k < l.length
      · have hlt2 : ¬ k < m.length := by omega
        clear hlt0
        go_wp2_with fail
        refine (works20_any _).mono ?_
        rintro e w2 ⟨rfl, hb2⟩
        have hb3 := bstep hbel hb2 (Nat.le_refl _)
        go_wp2_with fail
        refine (crcsum_any Z _ _ _ (hsz.keep hb2 (Nat.le_refl _))).mono ?_
        rintro e w3 ⟨rfl, hb4⟩
        rw [HZ.out]
        go_wp2_with fail
        refine (crcsum_any X _ _ _ ((hsx.keep hb2 (Nat.le_refl _)).keep hb4 (Nat.le_refl _))).mono ?_
        rintro e w4 ⟨rfl, hb5⟩
        rw [HX.out]
        go_wp2_with fail
        refine (crcsum_any Y _ _ _ (((hsy.keep hb2 (Nat.le_refl _)).keep hb4 (Nat.le_refl _)).keep hb5 (Nat.le_refl _))).mono ?_
        rintro e w5 ⟨rfl, hb6⟩
        rw [HY.out]
        have heq : (((cz : Nat) : Int) == bits BinOp.xor IntKind.u16 ((cx : Nat) : Int) ((cy : Nat) : Int)) = true := by rw [beq_iff_eq]; exact HE'.out
        go_wp2_with fail
        go_ret
        exact ⟨rfl, bstep (bstep (bstep hb3 hb4 (Nat.le_refl _)) hb5 (Nat.le_refl _)) hb6 (Nat.le_refl _)⟩
      · clear hlt0
        go_wp2_with fail
        refine (works20_any _).mono ?_
        rintro e w2 ⟨rfl, hb2⟩
        have hb3 := bstep hbel hb2 (Nat.le_refl _)
        go_wp2_with fail
        refine (crcsum_any Z _ _ _ (hsz.keep hb2 (Nat.le_refl _))).mono ?_
        rintro e w3 ⟨rfl, hb4⟩
        rw [HZ.out]
        go_wp2_with fail
        refine (crcsum_any X _ _ _ ((hsx.keep hb2 (Nat.le_refl _)).keep hb4 (Nat.le_refl _))).mono ?_
        rintro e w4 ⟨rfl, hb5⟩
        rw [HX.out]
        go_wp2_with fail
        refine (crcsum_any Y _ _ _ (((hsy.keep hb2 (Nat.le_refl _)).keep hb4 (Nat.le_refl _)).keep hb5 (Nat.le_refl _))).mono ?_
        rintro e w5 ⟨rfl, hb6⟩
        rw [HY.out]
        have heq : (((cz : Nat) : Int) == bits BinOp.xor IntKind.u16 ((cx : Nat) : Int) ((cy : Nat) : Int)) = true := by rw [beq_iff_eq]; exact HE'.out
        go_wp2_with fail
        go_ret
        exact ⟨rfl, bstep (bstep (bstep hb3 hb4 (Nat.le_refl _)) hb5 (Nat.le_refl _)) hb6 (Nat.le_refl _)⟩
end Go.Proofs.Ytflghgilcooiiaa
