/-
  The reference's natural numbers: contract of plus.
-/
import Derived.Test.YtajebceanonalaaGreatDoorNatB
namespace Go.Proofs.YtajebceanonalaaGreatDoor
set_option linter.unusedVariables false
open Go.RowKit

def BoolV (b : Bool) (x : Value) : Prop := x = .bool b
/-- the sum, as far as the loop has come -/
def PlusAt (m n K : Nat) (w wr : World) (v c i : Value) : Prop := ∃ (k cy : Nat) (xs : List Nat), i = .int .i64 (k : Nat) ∧ k ≤ K + 1 ∧ c = .int .u64 (cy : Nat) ∧ cy ≤ 1 ∧
  Owns wr w.heap.size 103 1 enW v xs ∧ xs.length = k ∧ okD xs ∧ valD xs + cy * 4294967296 ^ k = m % 4294967296 ^ k + n % 4294967296 ^ k ∧ Below w.heap.size w wr

theorem plus_end {m n K v c : Nat} (hm : m < 4294967296 ^ K) (hn : n < 4294967296 ^ K) (h : v + c * 4294967296 ^ (K + 1) = m % 4294967296 ^ (K + 1) + n % 4294967296 ^ (K + 1)) (hc : c ≤ 1) : v = m + n := by
  have hp : 4294967296 ^ (K + 1) = 4294967296 ^ K * 4294967296 := Nat.pow_succ ..
  rw [Nat.mod_eq_of_lt (by omega), Nat.mod_eq_of_lt (by omega)] at h
  have : c = 0 ∨ c = 1 := by omega
  rcases this with rfl | rfl
  · simpa using h
  · omega

set_option maxRecDepth 100000 in
set_option maxHeartbeats 2000000 in
theorem plus_any (m n : Nat) (a b : Option Addr) (ca cb : Nat) (hm : (digs m).length ≤ 1000000) (hn : (digs n).length ≤ 1000000) (w : World) (hs : SlD w a ca (digs m)) (ht : SlD w b cb (digs n)) :
    Calls Tryz.prog 24 #[.slice a (digs m).length ca, .slice b (digs n).length cb] w (RetNat w (m + n)) := by
  obtain ⟨K, hK⟩ : ∃ K : Nat, K = max (digs m).length (digs n).length := ⟨_, rfl⟩
  have hmK : m < 4294967296 ^ K := (digs_len m K).1 (by omega)
  have hnK : n < 4294967296 ^ K := (digs_len n K).1 (by omega)
  have hK3 : K ≤ 1000000 := by omega
  have HMX := Lib.hid hK
  have HE := Lib.hid (And.intro hmK hnK)
  have HS := Lib.hid hs
  have HT := Lib.hid ht
  clear hK hmK hnK hs ht
  have cd := fun (i : Nat) (hi : i < 4611686018427387904) (wr : World) (h : Below w.heap.size w wr) => digit_any (digs m) (digs_ok m) a ca i hi wr (HS.out.keep h (Nat.le_refl _))
  have ce := fun (i : Nat) (hi : i < 4611686018427387904) (wr : World) (h : Below w.heap.size w wr) => digit_any (digs n) (digs_ok n) b cb i hi wr (HT.out.keep h (Nat.le_refl _))
  simp only [digit_digs] at cd ce
  generalize (digs m).length = lm at *
  generalize (digs n).length = ln at *
  go_enter Tryz.func24, Tryz.ntmps24
  go_wp2_with fail
  go_loopw [5, 6, 7] (fun v c i wr => PlusAt m n K w wr v c i) (fun _ _ i _ => K + 1 - (intOf i).toNat)
  case atStart => exact ⟨0, 0, [], rfl, Nat.zero_le _, rfl, Nat.zero_le _, Owns.nil _ _ _ _ _, rfl, (fun _ h => absurd h List.not_mem_nil), by simp [valD, Nat.mod_one], Below.refl _ _⟩
  case round =>
    obtain ⟨k, cy, xs, rfl, hk, rfl, hcy, hown, hlen, hok, hv, hb⟩ := hrel
    have HV := Lib.hid hv
    have HOK := Lib.hid hok
    have HLEN := Lib.hid hlen
    clear hv hok hlen
    go_upto_region 4 with fail
    go_cut [15] (fun x wc => BoolV (decide (k ≤ K)) x ∧ wc = wr)
    case first =>
      by_cases hlt : (lm : Int) < ln
      · have HQ := Lib.hid (show decide ((k : Int) ≤ (ln : Int)) = decide (k ≤ K) by rw [Bool.eq_iff_iff, decide_eq_true_eq, decide_eq_true_eq]; have := HMX.out; omega)
        go_wp2_with fail
        go_meet
        case rel => exact ⟨by rw [← HQ.out]; simp [BoolV], rfl⟩
      · have HQ := Lib.hid (show decide ((k : Int) ≤ (lm : Int)) = decide (k ≤ K) by rw [Bool.eq_iff_iff, decide_eq_true_eq, decide_eq_true_eq]; have := HMX.out; omega)
        go_wp2_with fail
        go_meet
        case rel => exact ⟨by rw [← HQ.out]; simp [BoolV], rfl⟩
    case rest =>
      obtain ⟨hx, rfl⟩ := hcut
      unfold BoolV at hx
      by_cases hkK : k ≤ K
      · rw [decide_eq_true hkK] at hx
        subst hx
        have c1 := cd k (by omega) _ hb
        have c2 := ce k (by omega) _ hb
        have x1 := Nat.mod_lt (m / 4294967296 ^ k) (show 0 < 4294967296 by decide)
        have x2 := Nat.mod_lt (n / 4294967296 ^ k) (show 0 < 4294967296 by decide)
        have HST := Lib.hid (plus_step m n k (valD xs) cy HV.out _ rfl)
        clear cd ce
        generalize m / 4294967296 ^ k % 4294967296 = x at *
        generalize n / 4294967296 ^ k % 4294967296 = y at *
        have e1 : IntKind.u32.wrap ((x : Int) + (y : Int) + (cy : Int)) = (((x + y + cy) % 4294967296 : Nat) : Int) := by unfold IntKind.wrap; simp [IntKind.bits, IntKind.signed]
        have e2 : ((x : Int) + (y : Int) + (cy : Int)) / 4294967296 = (((x + y + cy) / 4294967296 : Nat) : Int) := by omega
        have hlo : (x + y + cy) % 4294967296 < 4294967296 := by omega
        have hhi : (x + y + cy) / 4294967296 ≤ 1 := by omega
        generalize (x + y + cy) % 4294967296 = lo at *
        generalize (x + y + cy) / 4294967296 = hi at *
        have HLO := Lib.hid hlo
        clear hlo
        go_wp2_with fail
        with_reducible refine c1.mono ?_
        rintro e w1 ⟨rfl, rfl⟩
        go_wp2_with fail
        with_reducible refine c2.mono ?_
        rintro e w1 ⟨rfl, rfl⟩
        clear c1 c2
        go_wp2_with (at_builtin; go_loud (refine wpList_append_elem words_ty xs lo hown hb (Nat.le_refl _) (by have := HLEN.out; omega) ?_ (hone := by simp [enW, Value.oneCell'])))
        intro v' w2 hown2 hb2
        clear hown hb
        go_wp2_with fail
        go_roundw
        case rel => exact ⟨k + 1, hi, xs ++ [lo], by go_num, by omega, rfl, hhi, hown2, by rw [List.length_append, HLEN.out]; rfl, okD_snoc HOK.out HLO.out, by rw [valD_snoc, HLEN.out]; exact HST.out, hb2⟩
        case measure => simp [intOf]; omega
      · rw [decide_eq_false hkK] at hx
        subst hx
        have hkk : k = K + 1 := by omega
        subst hkk
        have HSUM := Lib.hid (plus_end HE.out.1 HE.out.2 HV.out hcy)
        obtain ⟨g, cg, rfl, hsx⟩ := hown.shape
        have ct := trim_any xs HOK.out g cg _ hsx
        rw [HSUM.out] at ct
        have HF := Lib.hid (fun kk => fresh_of_owns hown kk)
        clear hown cd ce
        go_wp2_with fail
        refine ct.mono ?_
        rintro e w1 ⟨kk, rfl, hnv, rfl⟩
        have HNV := Lib.hid hnv
        clear hnv ct
        go_wp2_with fail
        go_ret
        exact ⟨_, rfl, HNV.out, HF.out _, hb⟩
end Go.Proofs.YtajebceanonalaaGreatDoor
