/-
  The reference's natural numbers: contract of less.
-/
import Derived.Test.YtajebceanonalaaGreatDoorNatC
namespace Go.Proofs.YtajebceanonalaaGreatDoor
set_option linter.unusedVariables false
open Go.RowKit

def LessAt (m n K : Nat) (w wr : World) (v c i : Value) : Prop := ∃ (k cy : Nat) (xs : List Nat), i = .int .i64 (k : Nat) ∧ k ≤ K ∧ c = .int .u64 (cy : Nat) ∧ cy ≤ 1 ∧
  Owns wr w.heap.size 103 1 enW v xs ∧ xs.length = k ∧ okD xs ∧ valD xs + n % 4294967296 ^ k = m % 4294967296 ^ k + cy * 4294967296 ^ k ∧ Below w.heap.size w wr

theorem less_end {m n K v c : Nat} (hm : m < 4294967296 ^ K) (hnm : n ≤ m) (hv : v < 4294967296 ^ K) (h : v + n % 4294967296 ^ K = m % 4294967296 ^ K + c * 4294967296 ^ K) (hc : c ≤ 1) : v = m - n := by
  rw [Nat.mod_eq_of_lt (by omega), Nat.mod_eq_of_lt hm] at h
  have : c = 0 ∨ c = 1 := by omega
  rcases this with rfl | rfl <;> omega

set_option maxRecDepth 100000 in
set_option maxHeartbeats 2000000 in
theorem less_any (m n : Nat) (hnm : n ≤ m) (a b : Option Addr) (ca cb : Nat) (hm : (digs m).length ≤ 1000000) (w : World) (hs : SlD w a ca (digs m)) (ht : SlD w b cb (digs n)) :
    Calls Tryz.prog 110 #[.slice a (digs m).length ca, .slice b (digs n).length cb] w (RetNat w (m - n)) := by
  have hmK : m < 4294967296 ^ (digs m).length := (digs_len m _).1 (Nat.le_refl _)
  have HE := Lib.hid (And.intro hmK hnm)
  have HS := Lib.hid hs
  have HT := Lib.hid ht
  clear hmK hs ht hnm
  have cd := fun (i : Nat) (hi : i < 4611686018427387904) (wr : World) (h : Below w.heap.size w wr) => digit_any (digs m) (digs_ok m) a ca i hi wr (HS.out.keep h (Nat.le_refl _))
  have ce := fun (i : Nat) (hi : i < 4611686018427387904) (wr : World) (h : Below w.heap.size w wr) => digit_any (digs n) (digs_ok n) b cb i hi wr (HT.out.keep h (Nat.le_refl _))
  simp only [digit_digs] at cd ce
  generalize (digs m).length = K at *
  generalize (digs n).length = ln at *
  go_enter Tryz.func110, Tryz.ntmps110
  go_wp2_with fail
  go_loopw [5, 6, 7] (fun v c i wr => LessAt m n K w wr v c i) (fun _ _ i _ => K - (intOf i).toNat)
  case atStart => exact ⟨0, 0, [], rfl, Nat.zero_le _, rfl, Nat.zero_le _, Owns.nil _ _ _ _ _, rfl, (fun _ h => absurd h List.not_mem_nil), by simp [valD, Nat.mod_one], Below.refl _ _⟩
  case round =>
    obtain ⟨k, cy, xs, rfl, hk, rfl, hcy, hown, hlen, hok, hv, hb⟩ := hrel
    have HV := Lib.hid hv
    have HOK := Lib.hid hok
    have HLEN := Lib.hid hlen
    clear hv hok hlen
    by_cases hkK : (k : Int) < K
    · have c1 := cd k (by omega) _ hb
      have c2 := ce k (by omega) _ hb
      have x1 := Nat.mod_lt (m / 4294967296 ^ k) (show 0 < 4294967296 by decide)
      have x2 := Nat.mod_lt (n / 4294967296 ^ k) (show 0 < 4294967296 by decide)
      have hst := less_step m n k (valD xs) cy HV.out hcy (4294967296 + m / 4294967296 ^ k % 4294967296 - n / 4294967296 ^ k % 4294967296 - cy) (by omega)
      have HST := Lib.hid hst
      clear cd ce hst
      generalize m / 4294967296 ^ k % 4294967296 = x at *
      generalize n / 4294967296 ^ k % 4294967296 = y at *
      have en : (4294967296 : Int) + (x : Int) - (y : Int) - (cy : Int) = ((4294967296 + x - y - cy : Nat) : Int) := by omega
      have hnn : 4294967296 + x - y - cy < 8589934592 := by omega
      generalize 4294967296 + x - y - cy = nn at *
      have e1 : IntKind.u32.wrap (nn : Int) = ((nn % 4294967296 : Nat) : Int) := by unfold IntKind.wrap; simp [IntKind.bits, IntKind.signed]
      have e2 : (nn : Int) / 4294967296 = ((nn / 4294967296 : Nat) : Int) := by omega
      have hlo : nn % 4294967296 < 4294967296 := by omega
      have hhi : nn / 4294967296 ≤ 1 := by omega
      have e3 : (1 : Int) - ((nn / 4294967296 : Nat) : Int) = ((1 - nn / 4294967296 : Nat) : Int) := by omega
      generalize nn % 4294967296 = lo at *
      generalize nn / 4294967296 = hi at *
      have hcy2 : 1 - hi ≤ 1 := by omega
      generalize 1 - hi = cy2 at *
      have HLO := Lib.hid hlo
      clear hlo
      go_wp2_with fail
      with_reducible refine c1.mono ?_
      rintro e w1 ⟨rfl, rfl⟩
      go_wp2_with fail
      with_reducible refine c2.mono ?_
      rintro e w1 ⟨rfl, rfl⟩
      clear c1 c2
      go_wp2_with (at_builtin; go_loud (refine wpList_append_elem words_ty xs lo hown hb (Nat.le_refl _) (by have := HLEN.out; omega) ?_ (hone := by simp [enW, Value.oneCell'])))
      intro v' w2 hown2 hb2
      clear hown hb
      go_wp2_with fail
      go_roundw
      case rel => exact ⟨k + 1, cy2, xs ++ [lo], by go_num, by omega, rfl, hcy2, hown2, by rw [List.length_append, HLEN.out]; rfl, okD_snoc HOK.out HLO.out, by rw [valD_snoc, HLEN.out]; exact HST.out.1, hb2⟩
      case measure => simp [intOf]; omega
    · have hkk : k = K := by omega
      subst hkk
      have HSUM := Lib.hid (less_end HE.out.1 HE.out.2 (by have := valD_lt HOK.out; rwa [HLEN.out] at this) HV.out hcy)
      obtain ⟨g, cg, rfl, hsx⟩ := hown.shape
      have ct := trim_any xs HOK.out g cg _ hsx
      rw [HSUM.out] at ct
      have HF := Lib.hid (fun kk => fresh_of_owns hown kk)
      clear hown cd ce
      go_wp2_with fail
      refine ct.mono ?_
      rintro e w1 ⟨kk, rfl, hnv, rfl⟩
      have HNV := Lib.hid hnv
      clear hnv ct
      go_wp2_with fail
      go_ret
      exact ⟨_, rfl, HNV.out, HF.out _, hb⟩
end Go.Proofs.YtajebceanonalaaGreatDoor
