/-
  Rows of digits for the library's ParseUint, ParseInt; rat's divided: contracts.
-/
import Derived.Test.YtajebceanonalaaGreatDoorShelf
import Derived.Test.YtajebceanonalaaGreatDoorParM
import Derived.Test.YtajebceanonalaaGreatDoorTxtB
import Derived.Lib.SmallJoins
namespace Go.Proofs.YtajebceanonalaaGreatDoor
set_option linter.unusedVariables false
open Go.RowKit

theorem puM_ok (M : Nat) (hM : M < 18446744073709551616) (l : List UInt8) (acc : Nat) (h : digL l) (hv : acc * 10 ^ l.length + valL l ≤ M) : Lib.parseUintM M acc l = .ok (acc * 10 ^ l.length + valL l) := by
  induction l generalizing acc with
  | nil => simp [Lib.parseUintM, valL, valS]
  | cons c l ih =>
    have h1 := (isDg_iff c).1 (h c (by simp))
    have e : acc * 10 ^ (c :: l).length + valL (c :: l) = (acc * 10 + (c.toNat - 48)) * 10 ^ l.length + valL l := by
      rw [List.length_cons, Nat.pow_succ, valL_cons, Nat.add_mul, Nat.mul_assoc acc 10, Nat.mul_comm 10 (10 ^ l.length)]; omega
    rw [e] at hv ⊢
    have h2 : acc * 10 + (c.toNat - 48) ≤ M := by
      have := Nat.le_mul_of_pos_right (acc * 10 + (c.toNat - 48)) (Nat.pow_pos (n := l.length) (show 0 < 10 by decide))
      omega
    rw [Lib.parseUintM, if_pos h1, if_neg (by omega), if_neg (by omega)]
    exact ih _ (fun x hx => h x (by simp [hx])) hv
theorem puM_range (M : Nat) (hM : M < 18446744073709551616) (l : List UInt8) (acc : Nat) (h : digL l) (ha : acc ≤ M) (hv : M < acc * 10 ^ l.length + valL l) : Lib.parseUintM M acc l = .range := by
  induction l generalizing acc with
  | nil => simp [valL, valS] at hv; omega
  | cons c l ih =>
    have h1 := (isDg_iff c).1 (h c (by simp))
    have e : acc * 10 ^ (c :: l).length + valL (c :: l) = (acc * 10 + (c.toNat - 48)) * 10 ^ l.length + valL l := by
      rw [List.length_cons, Nat.pow_succ, valL_cons, Nat.add_mul, Nat.mul_assoc acc 10, Nat.mul_comm 10 (10 ^ l.length)]; omega
    rw [e] at hv
    rw [Lib.parseUintM, if_pos h1]
    split
    · rfl
    · split
      · rfl
      · exact ih _ (fun x hx => h x (by simp [hx])) (by omega) hv
theorem pu_ok {l : List UInt8} (h : digL l) (hne : l ≠ []) (hv : valL l < 18446744073709551616) : Lib.parseUintB 64 l = .ok (valL l) := by
  unfold Lib.parseUintB
  rw [if_neg hne]
  have := puM_ok (2 ^ 64 - 1) (by decide) l 0 h (by simp; omega)
  simpa using this
theorem pu_range {l : List UInt8} (h : digL l) (hv : 18446744073709551616 ≤ valL l) : Lib.parseUintB 64 l = .range := by
  unfold Lib.parseUintB
  rw [if_neg (by intro h0; subst h0; simp [valL, valS] at hv)]
  exact puM_range (2 ^ 64 - 1) (by decide) l 0 h (by decide) (by simp; omega)
theorem pi_ok {l : List UInt8} (h : digL l) (hne : l ≠ []) (hv : valL l < 9223372036854775808) : Lib.parseIntB 64 l = .ok (valL l : Int) := by
  cases l with
  | nil => exact absurd rfl hne
  | cons c r =>
    have h1 := (isDg_iff c).1 (h c (by simp))
    have h2 := pu_ok h hne (by omega)
    unfold Lib.parseIntB
    simp only
    rw [if_neg (by omega), h2]
    simp only
    rw [if_neg (by omega), if_neg (by omega), if_neg (by omega)]

theorem div_digit (P d b : Nat) (hb : 0 < b) : (10 * P + d) / b = 10 * (P / b) + (10 * (P % b) + d) / b ∧ (10 * P + d) % b = (10 * (P % b) + d) % b := by
  have h := Nat.div_add_mod P b
  have e : 10 * P + d = b * (10 * (P / b)) + (10 * (P % b) + d) := by
    conv => lhs; rw [← h]
    rw [Nat.mul_add, Nat.mul_left_comm]; omega
  rw [e, Nat.mul_add_div hb, Nat.mul_add_mod]
  exact ⟨rfl, rfl⟩
theorem div_round (P d b i : Nat) (hb : 0 < b) (hd : d ≤ 9) : padD (i + 1) ((10 * P + d) / b) = padD i (P / b) ++ [dgt ((10 * (P % b) + d) / b)] := by
  have hq : (10 * (P % b) + d) / b < 10 := by
    rw [Nat.div_lt_iff_lt_mul hb]
    have := Nat.mod_lt P hb
    omega
  rw [padD_snoc, (div_digit P d b hb).1]
  generalize (10 * (P % b) + d) / b = q at *
  have e1 : (10 * (P / b) + q) / 10 = P / b := by omega
  have e2 : dgt (10 * (P / b) + q) = dgt q := by unfold dgt; rw [Nat.mul_add_mod]
  rw [e1, e2]

theorem conv_digI : ∀ (q : Nat) (h : q < 10) (w : World), (convert 21 9 (.int .i32 (48 + (q : Int)))).run Tryz.prog w = .ok (.string ⟨#[dgt q]⟩) w
  | 0, _, w => by kernel_rfl
  | 1, _, w => by kernel_rfl
  | 2, _, w => by kernel_rfl
  | 3, _, w => by kernel_rfl
  | 4, _, w => by kernel_rfl
  | 5, _, w => by kernel_rfl
  | 6, _, w => by kernel_rfl
  | 7, _, w => by kernel_rfl
  | 8, _, w => by kernel_rfl
  | 9, _, w => by kernel_rfl
  | n + 10, h, w => absurd h (by omega)

set_option maxRecDepth 100000 in
set_option maxHeartbeats 4000000 in
theorem divided_digits (V b : Nat) (hV : 0 < V) (hb1 : 2 ≤ b) (hb2 : b ≤ 5) (hdv : V % b = 0) (hlen : (Lib.decDigits V).length ≤ 1000) (w : World) :
    Calls Tryz.prog 104 #[.string ⟨(Lib.decDigits V).toArray⟩, .int .i64 b] w fun e w' => e = .returned (.string ⟨(Lib.decDigits (V / b)).toArray⟩) ∧ w' = w := by
  have hd := dec_digL V
  have hval := dec_valL V
  generalize hL : Lib.decDigits V = L at *
  have HD := Lib.hid hd
  have HVAL := Lib.hid hval
  have hVb : 0 < V / b := Nat.div_pos (by
    rcases Nat.lt_or_ge V b with h | h
    · rw [Nat.mod_eq_of_lt h] at hdv; omega
    · exact h) (by omega)
  have hVl : V / b < 10 ^ L.length := by
    have := valL_lt hd
    rw [hval] at this
    exact Nat.lt_of_le_of_lt (Nat.div_le_self _ _) this
  have HTR := Lib.hid (drop_pad L.length (V / b) hVb hVl)
  clear hd hval hL hVb hVl hdv hV
  have hb0 : ¬ b = 0 := by omega
  have hb0' : ((b : Int) == 0) = false := by rw [beq_eq_false_iff_ne]; omega
  go_enter Tryz.func104, Tryz.ntmps104
  go_wp2_with fail
  go_loopw [5, 6, 10] (fun s r x wr => ∃ i : Nat, x = .int .i64 (i : Nat) ∧ i ≤ L.length ∧ r = .int .i64 (valL (L.take i) % b : Nat) ∧ s = .string ⟨(padD i (valL (L.take i) / b)).toArray⟩ ∧ wr = w) (fun _ _ x _ => L.length - (intOf x).toNat)
  case atStart => exact ⟨0, rfl, Nat.zero_le _, by simp [valL, valS], by simp [padD], rfl⟩
  case round =>
    obtain ⟨i, rfl, hi, rfl, rfl, rfl⟩ := hrel
    by_cases hlt : (i : Int) < L.length
    · have hlt' : i < L.length := by omega
      have hget : (⟨L.toArray⟩ : ByteArray)[i]'hlt' = L[i] := rfl
      have hc := (isDg_iff L[i]).1 (HD.out L[i] (List.getElem_mem _))
      have hsn : valL (L.take (i + 1)) = 10 * valL (L.take i) + (L[i].toNat - 48) := by
        rw [List.take_succ_eq_append_getElem hlt', valL_snoc]
      have hpl := padD_len i (valL (L.take i) / b)
      have hmod : valL (L.take i) % b < b := Nat.mod_lt _ (by omega)
      have hround := div_round (valL (L.take i)) (L[i].toNat - 48) b i (by omega) (by omega)
      have hdig := (div_digit (valL (L.take i)) (L[i].toNat - 48) b (by omega)).2
      rw [← hsn] at hround hdig
      have HSN := Lib.hid (And.intro hround hdig)
      clear hround hdig hsn
      generalize hcc : L[i] = c at *
      generalize hrr : valL (L.take i) % b = r at *
      generalize padD i (valL (L.take i) / b) = S at *
      clear hrr hcc
      obtain ⟨d, hdd⟩ : ∃ d, d = c.toNat - 48 := ⟨_, rfl⟩
      have hcd : (c.toNat : Int) = 48 + (d : Int) := by omega
      rw [← hdd] at HSN
      have hd9 : d ≤ 9 := by omega
      have hq9 : (10 * r + d) / b < 10 := by rw [Nat.div_lt_iff_lt_mul (by omega)]; omega
      have t1 : (10 * (r : Int) + (48 + (d : Int) - 48)) / (b : Int) = (((10 * r + d) / b : Nat) : Int) := by
        rw [show 10 * (r : Int) + (48 + (d : Int) - 48) = ((10 * r + d : Nat) : Int) by omega, Int.natCast_ediv]
      have t2 : (10 * (r : Int) + (48 + (d : Int) - 48)) % (b : Int) = (((10 * r + d) % b : Nat) : Int) := by
        rw [show 10 * (r : Int) + (48 + (d : Int) - 48) = ((10 * r + d : Nat) : Int) by omega, Int.natCast_emod]
      have hr2 : (10 * r + d) % b < b := Nat.mod_lt _ (by omega)
      have hr5 : (r : Int) ≤ 4 := by omega
      generalize (10 * r + d) / b = q at *
      generalize (10 * r + d) % b = r2 at *
      have hcv := fun w => conv_digI q hq9 w
      have st := strA S [dgt q]
      have hl3 : ¬ 9223372036854775807 < S.length + 1 := by omega
      have hl4 : S.length < 9223372036854775807 := by omega
      have HSL := Lib.hid hpl
      clear hdd hc hr2 hmod hpl
      go_wp2_with fail
      go_roundw
      case rel => exact ⟨i + 1, by go_num, by omega, by rw [HSN.out.2, t2], by rw [HSN.out.1], trivial⟩
      case measure => simp [intOf]; omega
    · obtain rfl : i = L.length := by omega
      have HV2 := Lib.hid (show valL (L.take L.length) = V by rw [List.take_length, HVAL.out])
      rw [HV2.out]
      have ct := Tryz.strings_TrimLeft_one ⟨(padD L.length (V / b)).toArray⟩ 48 (by decide) wr
      rw [show Lib.trimLeftB (⟨(padD L.length (V / b)).toArray⟩ : ByteArray).data.toList 48 = Lib.decDigits (V / b) from HTR.out] at ct
      go_wp2_with fail
      with_reducible refine ct.mono ?_
      rintro e w1 ⟨rfl, rfl⟩
      clear ct
      go_wp2_with fail
      go_ret
      exact ⟨rfl, rfl⟩
end Go.Proofs.YtajebceanonalaaGreatDoor
