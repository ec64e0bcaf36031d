/-
  The reference's natural numbers: contract of times.
-/
import Derived.Test.YtajebceanonalaaGreatDoorNatE
import Derived.Test.YtajebceanonalaaGreatDoorNatP
namespace Go.Proofs.YtajebceanonalaaGreatDoor
set_option linter.unusedVariables false
open Go.RowKit

theorem u64N (a : Nat) (h : a < 18446744073709551616) : IntKind.u64.wrap (a : Int) = (a : Int) := by unfold IntKind.wrap; simp [IntKind.bits, IntKind.signed]; omega
theorem u32mod (a : Nat) : IntKind.u32.wrap (a : Int) = ((a % 4294967296 : Nat) : Int) := by unfold IntKind.wrap; simp [IntKind.bits, IntKind.signed]

set_option maxRecDepth 100000 in
set_option maxHeartbeats 4000000 in
theorem times_any (m n : Nat) (a b : Option Addr) (ca cb : Nat) (hm : (digs m).length ≤ 100000) (hn : (digs n).length ≤ 100000) (w : World) (hs : SlD w a ca (digs m)) (ht : SlD w b cb (digs n)) :
    Calls Tryz.prog 25 #[.slice a (digs m).length ca, .slice b (digs n).length cb] w (RetNat w (m * n)) := by
  have HS := Lib.hid hs
  have HT := Lib.hid ht
  clear hs ht
  generalize hK : (digs m).length = K at *
  generalize hJ : (digs n).length = J at *
  have HK := Lib.hid hK
  have HJ := Lib.hid hJ
  clear hK hJ
  go_enter Tryz.func25, Tryz.ntmps25
  go_wp2_with fail
  go_loopw [5, 6] (fun v i wr => ∃ k : Nat, i = .int .i64 (k : Nat) ∧ k ≤ K + J ∧ Owns wr w.heap.size 103 1 enW v (List.replicate k 0) ∧ Below w.heap.size w wr) (fun _ i _ => K + J - (intOf i).toNat)
  case atStart => exact ⟨0, rfl, Nat.zero_le _, Owns.nil _ _ _ _ _, Below.refl _ _⟩
  case round =>
    obtain ⟨k, rfl, hk, hown, hb⟩ := hrel
    by_cases hkK : (k : Int) < (K : Int) + J
    · go_wp2_with (at_builtin; go_loud (refine wpList_append_elem words_ty (List.replicate k 0) 0 hown hb (Nat.le_refl _) (by simp; omega) ?_ (hone := by simp [enW, Value.oneCell'])))
      intro v' w2 hown2 hb2
      clear hown hb
      go_wp2_with fail
      go_roundw
      case rel => exact ⟨k + 1, by go_num, by omega, by rw [List.replicate_succ']; exact hown2, hb2⟩
      case measure => simp [intOf]; omega
    · obtain rfl : k = K + J := by omega
      obtain ⟨aq, cq, rfl, _⟩ := hown.shape
      rw [List.length_replicate] at *
      go_wp2_with fail
      go_loopw [7] (fun i wr => ∃ (k : Nat) (xs : List Nat), i = .int .i64 (k : Nat) ∧ k ≤ K ∧ Owns wr w.heap.size 103 1 enW (.slice aq (K + J) cq) xs ∧ MulR m n (K + J) k xs ∧ Below w.heap.size w wr) (fun i _ => K - (intOf i).toNat)
      case atStart => exact ⟨0, List.replicate (K + J) 0, rfl, Nat.zero_le _, hown, mulR_start m n _, hb⟩
      case round =>
        clear hown hb
        obtain ⟨i, xs, rfl, hi, hown, hR, hb⟩ := hrel
        have HR := Lib.hid hR
        clear hR
        by_cases hiK : (i : Int) < K
        · have hiK' : i < K := by omega
          go_wp2_with fail
          go_loopw [8, 9] (fun c x wr => ∃ (k cy : Nat) (xs : List Nat), x = .int .i64 (k : Nat) ∧ c = .int .u64 (cy : Nat) ∧ k ≤ J ∧ Owns wr w.heap.size 103 1 enW (.slice aq (K + J) cq) xs ∧ MulS m n (K + J) i k xs cy ∧ Below w.heap.size w wr) (fun _ x _ => J - (intOf x).toNat)
          case atStart => exact ⟨0, 0, xs, rfl, rfl, Nat.zero_le _, hown, mulR_in HR.out, hb⟩
          case round =>
            clear hown hb HR xs
            obtain ⟨k, cy, xs, rfl, rfl, hk, hown, hS, hb⟩ := hrel
            have HS2 := Lib.hid hS
            clear hS
            by_cases hkJ : (k : Int) < J
            · have hkJ' : k < J := by omega
              have hlen := HS2.out.len
              obtain ⟨ga, oa, rfl, _, hca⟩ := SlD.at (HS.out.keep hb (Nat.le_refl _)) (show i < (digs m).length by rw [HK.out]; exact hiK')
              obtain ⟨gb, ob, rfl, _, hcb⟩ := SlD.at (HT.out.keep hb (Nat.le_refl _)) (show k < (digs n).length by rw [HJ.out]; exact hkJ')
              have hda : (digs m)[i]'(by rw [HK.out]; exact hiK') = m / 4294967296 ^ i % 4294967296 := by
                rw [← digit_digs, List.getElem?_eq_getElem (by rw [HK.out]; exact hiK')]; rfl
              have hdb : (digs n)[k]'(by rw [HJ.out]; exact hkJ') = n / 4294967296 ^ k % 4294967296 := by
                rw [← digit_digs, List.getElem?_eq_getElem (by rw [HJ.out]; exact hkJ')]; rfl
              rw [hda] at hca
              rw [hdb] at hcb
              clear hda hdb
              obtain ⟨g, cg, hsl, hgb, hglt, hcap, hcm⟩ := hown.block (by rw [hlen]; omega)
              rw [hlen] at hsl
              simp only [Value.slice.injEq, true_and] at hsl
              obtain ⟨rfl, rfl⟩ := hsl
              have hfr := hown.free (i + k)
              obtain ⟨_, _, hge, _, hcq⟩ := SlD.at hown.sl.2 (show i + k < xs.length by omega)
              simp only [Option.some.injEq, Addr.mk.injEq, and_true] at hge
              obtain ⟨rfl, rfl⟩ := hge
              rw [Nat.zero_add] at hcq
              have hstep := mulS_step HS2.out (show i + k < K + J by omega) (show k < (digs n).length by rw [HJ.out]; exact hkJ') _ rfl
              have x1 := Nat.mod_lt (m / 4294967296 ^ i) (show 0 < 4294967296 by decide)
              have x2 := Nat.mod_lt (n / 4294967296 ^ k) (show 0 < 4294967296 by decide)
              have x3 := HS2.out.ok xs[i + k] (List.getElem_mem _)
              have x4 := HS2.out.car
              have x5 := mul_fits x1 x2 x3 x4
              have x6 := Nat.mul_le_mul (Nat.le_of_lt_succ x1) (Nat.le_of_lt_succ x2)
              have v1 : ((m / 4294967296 ^ i % 4294967296 : Nat) : Int) * ((n / 4294967296 ^ k % 4294967296 : Nat) : Int) = ((m / 4294967296 ^ i % 4294967296 * (n / 4294967296 ^ k % 4294967296) : Nat) : Int) := by simp
              generalize m / 4294967296 ^ i % 4294967296 * (n / 4294967296 ^ k % 4294967296) = p at *
              generalize m / 4294967296 ^ i % 4294967296 = x at *
              generalize n / 4294967296 ^ k % 4294967296 = y at *
              generalize xs[i + k] = l at *
              have e1 : IntKind.u32.wrap ((p : Int) + (l : Int) + (cy : Int)) = (((p + l + cy) % 4294967296 : Nat) : Int) := by unfold IntKind.wrap; simp [IntKind.bits, IntKind.signed]
              have e2 : ((p : Int) + (l : Int) + (cy : Int)) / 4294967296 = (((p + l + cy) / 4294967296 : Nat) : Int) := by omega
              have hlo : (p + l + cy) % 4294967296 < 4294967296 := Nat.mod_lt _ (by decide)
              have i1 : (p : Int) ≤ 18446744065119617025 := by omega
              have i2 : (p : Int) + l + cy ≤ 18446744073709551615 := by omega
              have i3 : (p : Int) + l ≤ 18446744073709551615 := by omega
              have HST := Lib.hid hstep
              clear hstep x5 x6
              generalize (p + l + cy) % 4294967296 = lo at *
              generalize (p + l + cy) / 4294967296 = hi at *
              have HLO := Lib.hid hlo
              have HOWN := Lib.hid hown
              clear hlo hown
              go_wp2_with fail
              go_quiet (fail)
              go_wp2_with fail
              go_roundw
              case rel => exact ⟨k + 1, hi, xs.set (i + k) lo, by go_num, rfl, by omega, Owns.set1 (fun y : Nat => .int .u32 (y : Nat)) (fun _ => rfl) (HOWN.out.keep (below_drewN (Below.refl _ _) _) (Nat.le_refl _)) lo (by omega), HST.out.1, (below_drewN hb _).setCell (by simp; omega) _⟩
              case measure => simp [intOf]; omega
            · obtain rfl : k = J := by omega
              have hlen := HS2.out.len
              obtain ⟨g, cg, hsl, hgb, hglt, hcap, hcm⟩ := hown.block (by rw [hlen]; omega)
              rw [hlen] at hsl
              simp only [Value.slice.injEq, true_and] at hsl
              obtain ⟨rfl, rfl⟩ := hsl
              have hfr := hown.free (i + k)
              obtain ⟨_, _, hge, _, hcq⟩ := SlD.at hown.sl.2 (show i + k < xs.length by omega)
              simp only [Option.some.injEq, Addr.mk.injEq, and_true] at hge
              obtain ⟨rfl, rfl⟩ := hge
              rw [Nat.zero_add] at hcq
              generalize xs[i + k] = l at *
              have hcar := HS2.out.car
              have hout := mulS_out' HJ.out HS2.out (by omega)
              have HOUT := Lib.hid hout
              have HOWN := Lib.hid hown
              clear hout hown
              go_wp2_with fail
              go_roundw
              case rel => exact ⟨i + 1, xs.set (i + k) cy, by go_num, by omega, Owns.set1 (fun y : Nat => .int .u32 (y : Nat)) (fun _ => rfl) HOWN.out cy (by omega), HOUT.out, hb.setCell (by simp; omega) _⟩
              case measure => simp [intOf]; omega
        · obtain rfl : i = K := by omega
          obtain ⟨g, cg, hsl, hsx⟩ := hown.shape
          rw [HR.out.len] at hsl
          simp only [Value.slice.injEq, true_and] at hsl
          obtain ⟨rfl, rfl⟩ := hsl
          have ct := trim_any xs HR.out.ok aq cq _ hsx
          rw [HR.out.len, mulR_end HR.out (Nat.le_of_eq HK.out)] at ct
          have HF := Lib.hid (fun kk => fresh_of_owns hown kk)
          clear hown
          go_wp2_with fail
          refine ct.mono ?_
          rintro e w1 ⟨kk, rfl, hnv, rfl⟩
          have HNV := Lib.hid hnv
          clear hnv ct
          go_wp2_with fail
          go_ret
          exact ⟨_, rfl, HNV.out, HF.out _, hb⟩
end Go.Proofs.YtajebceanonalaaGreatDoor
