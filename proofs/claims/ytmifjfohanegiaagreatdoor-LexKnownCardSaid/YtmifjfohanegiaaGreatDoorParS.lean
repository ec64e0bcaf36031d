/-
  rat's small: contract.
-/
import Derived.Test.YtmifjfohanegiaaGreatDoorTxtA
import Derived.Laws.IdiomStrings
import Derived.Test.YtmifjfohanegiaaGreatDoorShelf
import Derived.Test.YtmifjfohanegiaaGreatDoorParR
import Derived.Lib.SmallJoins
import Derived.Test.YtmifjfohanegiaaGreatDoorRatD
import Derived.Test.YtmifjfohanegiaaGreatDoorBaseD
import Derived.Test.YtmifjfohanegiaaGreatDoorNatT
import Derived.Deep.LoopGhost
import Derived.Deep.CutBlock
import Derived.Deep.DeepCutAuto
import Derived.Test.YtmifjfohanegiaaGreatDoorCalm
import Derived.Test.YtmifjfohanegiaaGreatDoorBaseC
import Derived.Deep.RegionHeld3
import Derived.Test.YtmifjfohanegiaaGreatDoorIsErr

namespace Go.Proofs.YtmifjfohanegiaaGreatDoor
set_option linter.unusedVariables false
open Go.RowKit

theorem conv_one (w : World) (c : UInt8) : (convert 108 9 (.slice (some ⟨w.heap.size, 0, none⟩) 1 1)).run Tryz.prog (w.alloc (.cells #[.int .u8 c.toNat] 5)) = .ok (.string ⟨#[c]⟩) (w.alloc (.cells #[.int .u8 c.toNat] 5)) := by
  have hs := SlOf.lit w enByte 1 (fun _ => rfl) [c] #[.int .u8 c.toNat] 5 1 rfl rfl (by decide)
  exact run_convert_bytes_back _ 108 9 5 ⟨w.heap.size, 0, none⟩ 1 [c] Tryz.underlying108 Tryz.underlying5 Tryz.underlying9 fun j hj => by
    obtain ⟨b, o, e1, _, hc⟩ := SlOf.cell1 hs (fun x : UInt8 => .int .u8 (x.toNat : Int)) (fun _ => rfl) hj
    cases e1
    rw [Addr.add_lit]
    exact hc
theorem str_cons (c : UInt8) (l : List UInt8) : (⟨#[c]⟩ : ByteArray) ++ ⟨l.toArray⟩ = ⟨(c :: l).toArray⟩ := strA [c] l
theorem digs_dec {n i : Nat} (h : n / 10 ^ i ≠ 0) : i ≤ 10 * (digs n).length := by
  have h1 : n < 4294967296 ^ (digs n).length := (digs_len n _).1 (Nat.le_refl _)
  have h2 : 4294967296 ^ (digs n).length ≤ 10 ^ (10 * (digs n).length) := by
    rw [Nat.pow_mul]
    exact Nat.pow_le_pow_left (by decide) _
  have h3 : 10 ^ i ≤ n := by
    rcases Nat.lt_or_ge n (10 ^ i) with h4 | h4
    · rw [Nat.div_eq_of_lt h4] at h; exact absurd rfl h
    · exact h4
  have h5 := (Nat.pow_lt_pow_iff_right (by decide : 1 < 10)).1 (Nat.lt_of_le_of_lt h3 (Nat.lt_of_lt_of_le h1 h2))
  omega

end Go.Proofs.YtmifjfohanegiaaGreatDoor

namespace Go.Proofs.YtmifjfohanegiaaGreatDoor
set_option linter.unusedVariables false
open Go.RowKit

theorem puM_ok (M : Nat) (hM : M < 18446744073709551616) (l : List UInt8) (acc : Nat) (h : digL l) (hv : acc * 10 ^ l.length + valL l ≤ M) : Lib.parseUintM M acc l = .ok (acc * 10 ^ l.length + valL l) := by
  induction l generalizing acc with
  | nil => simp [Lib.parseUintM, valL, valS]
  | cons c l ih =>
    have h1 := (isDg_iff c).1 (h c (by simp))
    have e : acc * 10 ^ (c :: l).length + valL (c :: l) = (acc * 10 + (c.toNat - 48)) * 10 ^ l.length + valL l := by
      rw [List.length_cons, Nat.pow_succ, valL_cons, Nat.add_mul, Nat.mul_assoc acc 10, Nat.mul_comm 10 (10 ^ l.length)]; omega
    rw [e] at hv ⊢
    have h2 : acc * 10 + (c.toNat - 48) ≤ M := by
      have := Nat.le_mul_of_pos_right (acc * 10 + (c.toNat - 48)) (Nat.pow_pos (n := l.length) (show 0 < 10 by decide))
      omega
    rw [Lib.parseUintM, if_pos h1, if_neg (by omega), if_neg (by omega)]
    exact ih _ (fun x hx => h x (by simp [hx])) hv
theorem puM_range (M : Nat) (hM : M < 18446744073709551616) (l : List UInt8) (acc : Nat) (h : digL l) (ha : acc ≤ M) (hv : M < acc * 10 ^ l.length + valL l) : Lib.parseUintM M acc l = .range := by
  induction l generalizing acc with
  | nil => simp [valL, valS] at hv; omega
  | cons c l ih =>
    have h1 := (isDg_iff c).1 (h c (by simp))
    have e : acc * 10 ^ (c :: l).length + valL (c :: l) = (acc * 10 + (c.toNat - 48)) * 10 ^ l.length + valL l := by
      rw [List.length_cons, Nat.pow_succ, valL_cons, Nat.add_mul, Nat.mul_assoc acc 10, Nat.mul_comm 10 (10 ^ l.length)]; omega
    rw [e] at hv
    rw [Lib.parseUintM, if_pos h1]
    split
    · rfl
    · split
      · rfl
      · exact ih _ (fun x hx => h x (by simp [hx])) (by omega) hv
theorem pu_ok {l : List UInt8} (h : digL l) (hne : l ≠ []) (hv : valL l < 18446744073709551616) : Lib.parseUintB 64 l = .ok (valL l) := by
  unfold Lib.parseUintB
  rw [if_neg hne]
  have := puM_ok (2 ^ 64 - 1) (by decide) l 0 h (by simp; omega)
  simpa using this
theorem pu_range {l : List UInt8} (h : digL l) (hv : 18446744073709551616 ≤ valL l) : Lib.parseUintB 64 l = .range := by
  unfold Lib.parseUintB
  rw [if_neg (by intro h0; subst h0; simp [valL, valS] at hv)]
  exact puM_range (2 ^ 64 - 1) (by decide) l 0 h (by decide) (by simp; omega)
theorem pi_ok {l : List UInt8} (h : digL l) (hne : l ≠ []) (hv : valL l < 9223372036854775808) : Lib.parseIntB 64 l = .ok (valL l : Int) := by
  cases l with
  | nil => exact absurd rfl hne
  | cons c r =>
    have h1 := (isDg_iff c).1 (h c (by simp))
    have h2 := pu_ok h hne (by omega)
    unfold Lib.parseIntB
    simp only
    rw [if_neg (by omega), h2]
    simp only
    rw [if_neg (by omega), if_neg (by omega), if_neg (by omega)]

theorem div_digit (P d b : Nat) (hb : 0 < b) : (10 * P + d) / b = 10 * (P / b) + (10 * (P % b) + d) / b ∧ (10 * P + d) % b = (10 * (P % b) + d) % b := by
  have h := Nat.div_add_mod P b
  have e : 10 * P + d = b * (10 * (P / b)) + (10 * (P % b) + d) := by
    conv => lhs; rw [← h]
    rw [Nat.mul_add, Nat.mul_left_comm]; omega
  rw [e, Nat.mul_add_div hb, Nat.mul_add_mod]
  exact ⟨rfl, rfl⟩
theorem div_round (P d b i : Nat) (hb : 0 < b) (hd : d ≤ 9) : padD (i + 1) ((10 * P + d) / b) = padD i (P / b) ++ [dgt ((10 * (P % b) + d) / b)] := by
  have hq : (10 * (P % b) + d) / b < 10 := by
    rw [Nat.div_lt_iff_lt_mul hb]
    have := Nat.mod_lt P hb
    omega
  rw [padD_snoc, (div_digit P d b hb).1]
  generalize (10 * (P % b) + d) / b = q at *
  have e1 : (10 * (P / b) + q) / 10 = P / b := by omega
  have e2 : dgt (10 * (P / b) + q) = dgt q := by unfold dgt; rw [Nat.mul_add_mod]
  rw [e1, e2]

theorem conv_digI : ∀ (q : Nat) (h : q < 10) (w : World), (convert 21 9 (.int .i32 (48 + (q : Int)))).run Tryz.prog w = .ok (.string ⟨#[dgt q]⟩) w
  | 0, _, w => by kernel_rfl
  | 1, _, w => by kernel_rfl
  | 2, _, w => by kernel_rfl
  | 3, _, w => by kernel_rfl
  | 4, _, w => by kernel_rfl
  | 5, _, w => by kernel_rfl
  | 6, _, w => by kernel_rfl
  | 7, _, w => by kernel_rfl
  | 8, _, w => by kernel_rfl
  | 9, _, w => by kernel_rfl
  | n + 10, h, w => absurd h (by omega)

set_option maxRecDepth 100000 in
set_option maxHeartbeats 4000000 in
theorem divided_digits (V b : Nat) (hV : 0 < V) (hb1 : 2 ≤ b) (hb2 : b ≤ 5) (hdv : V % b = 0) (hlen : (Lib.decDigits V).length ≤ 1000) (w : World) :
    Calls Tryz.prog 96 #[.string ⟨(Lib.decDigits V).toArray⟩, .int .i64 b] w fun e w' => e = .returned (.string ⟨(Lib.decDigits (V / b)).toArray⟩) ∧ w' = w := by
  have hd := dec_digL V
  have hval := dec_valL V
  generalize hL : Lib.decDigits V = L at *
  have HD := Lib.hid hd
  have HVAL := Lib.hid hval
  have hVb : 0 < V / b := Nat.div_pos (by
    rcases Nat.lt_or_ge V b with h | h
    · rw [Nat.mod_eq_of_lt h] at hdv; omega
    · exact h) (by omega)
  have hVl : V / b < 10 ^ L.length := by
    have := valL_lt hd
    rw [hval] at this
    exact Nat.lt_of_le_of_lt (Nat.div_le_self _ _) this
  have HTR := Lib.hid (drop_pad L.length (V / b) hVb hVl)
  clear hd hval hL hVb hVl hdv hV
  have hb0 : ¬ b = 0 := by omega
  have hb0' : ((b : Int) == 0) = false := by rw [beq_eq_false_iff_ne]; omega
  go_enter Tryz.func96, Tryz.ntmps96
  go_wp2_with fail
  go_loopw [5, 6, 10] (fun s r x wr => ∃ i : Nat, x = .int .i64 (i : Nat) ∧ i ≤ L.length ∧ r = .int .i64 (valL (L.take i) % b : Nat) ∧ s = .string ⟨(padD i (valL (L.take i) / b)).toArray⟩ ∧ wr = w) (fun _ _ x _ => L.length - (intOf x).toNat)
  case atStart => exact ⟨0, rfl, Nat.zero_le _, by simp [valL, valS], by simp [padD], rfl⟩
  case round =>
    obtain ⟨i, rfl, hi, rfl, rfl, rfl⟩ := hrel
    by_cases hlt : (i : Int) < L.length
    · have hlt' : i < L.length := by omega
      have hget : (⟨L.toArray⟩ : ByteArray)[i]'hlt' = L[i] := rfl
      have hc := (isDg_iff L[i]).1 (HD.out L[i] (List.getElem_mem _))
      have hsn : valL (L.take (i + 1)) = 10 * valL (L.take i) + (L[i].toNat - 48) := by
        rw [List.take_succ_eq_append_getElem hlt', valL_snoc]
      have hpl := padD_len i (valL (L.take i) / b)
      have hmod : valL (L.take i) % b < b := Nat.mod_lt _ (by omega)
      have hround := div_round (valL (L.take i)) (L[i].toNat - 48) b i (by omega) (by omega)
      have hdig := (div_digit (valL (L.take i)) (L[i].toNat - 48) b (by omega)).2
      rw [← hsn] at hround hdig
      have HSN := Lib.hid (And.intro hround hdig)
      clear hround hdig hsn
      generalize hcc : L[i] = c at *
      generalize hrr : valL (L.take i) % b = r at *
      generalize padD i (valL (L.take i) / b) = S at *
      clear hrr hcc
      obtain ⟨d, hdd⟩ : ∃ d, d = c.toNat - 48 := ⟨_, rfl⟩
      have hcd : (c.toNat : Int) = 48 + (d : Int) := by omega
      rw [← hdd] at HSN
      have hd9 : d ≤ 9 := by omega
      have hq9 : (10 * r + d) / b < 10 := by rw [Nat.div_lt_iff_lt_mul (by omega)]; omega
      have t1 : (10 * (r : Int) + (48 + (d : Int) - 48)) / (b : Int) = (((10 * r + d) / b : Nat) : Int) := by
        rw [show 10 * (r : Int) + (48 + (d : Int) - 48) = ((10 * r + d : Nat) : Int) by omega, Int.natCast_ediv]
      have t2 : (10 * (r : Int) + (48 + (d : Int) - 48)) % (b : Int) = (((10 * r + d) % b : Nat) : Int) := by
        rw [show 10 * (r : Int) + (48 + (d : Int) - 48) = ((10 * r + d : Nat) : Int) by omega, Int.natCast_emod]
      have hr2 : (10 * r + d) % b < b := Nat.mod_lt _ (by omega)
      have hr5 : (r : Int) ≤ 4 := by omega
      generalize (10 * r + d) / b = q at *
      generalize (10 * r + d) % b = r2 at *
      have hcv := fun w => conv_digI q hq9 w
      have st := strA S [dgt q]
      have hl3 : ¬ 9223372036854775807 < S.length + 1 := by omega
      have hl4 : S.length < 9223372036854775807 := by omega
      have HSL := Lib.hid hpl
      clear hdd hc hr2 hmod hpl
      go_wp2_with fail
      go_roundw
      case rel => exact ⟨i + 1, by go_num, by omega, by rw [HSN.out.2, t2], by rw [HSN.out.1], trivial⟩
      case measure => simp [intOf]; omega
    · obtain rfl : i = L.length := by omega
      have HV2 := Lib.hid (show valL (L.take L.length) = V by rw [List.take_length, HVAL.out])
      rw [HV2.out]
      have ct := Tryz.strings_TrimLeft_one ⟨(padD L.length (V / b)).toArray⟩ 48 (by decide) wr
      rw [show Lib.trimLeftB (⟨(padD L.length (V / b)).toArray⟩ : ByteArray).data.toList 48 = Lib.decDigits (V / b) from HTR.out] at ct
      go_wp2_with fail
      with_reducible refine ct.mono ?_
      rintro e w1 ⟨rfl, rfl⟩
      clear ct
      go_wp2_with fail
      go_ret
      exact ⟨rfl, rfl⟩
end Go.Proofs.YtmifjfohanegiaaGreatDoor

namespace Go.Proofs.YtmifjfohanegiaaGreatDoor
set_option linter.unusedVariables false
open Go.RowKit

theorem dec_last (V : Nat) : ∃ P, Lib.decDigits V = P ++ [dgt V] := by
  obtain ⟨k, h1, _⟩ := dec_len V
  exact ⟨padD k (V / 10), by rw [h1, padD_snoc]⟩
theorem dgt_val (V : Nat) : (dgt V).toNat = 48 + V % 10 := by
  have e : dgt V = dgt (V % 10) := by unfold dgt; rw [Nat.mod_mod]
  rw [e, dgt_toNat (Nat.mod_lt _ (by decide))]
theorem last_dig (V : Nat) : ∃ p, (Lib.decDigits V).length = p + 1 ∧ ∃ h : p < (Lib.decDigits V).length, (⟨(Lib.decDigits V).toArray⟩ : ByteArray)[p]'h = dgt V := by
  obtain ⟨P, hP⟩ := dec_last V
  rw [hP]
  exact ⟨P.length, by simp, by simp, by show (P ++ [dgt V])[P.length]'_ = dgt V; simp⟩
def dnN (two i : Nat) : Nat := if i ≤ two then 2 ^ i else 2 ^ two * 5 ^ (i - two)
theorem dn_step (two i : Nat) : dnN two (i + 1) = dnN two i * (if two ≤ i then 5 else 2) := by
  unfold dnN
  by_cases h : i < two
  · rw [if_pos (by omega), if_pos (by omega), if_neg (by omega), Nat.pow_succ]
  · rw [if_neg (by omega), if_pos (show two ≤ i by omega)]
    by_cases h2 : i = two
    · subst h2; rw [if_pos (Nat.le_refl _)]; simp
    · rw [if_neg (by omega), Nat.mul_assoc, ← Nat.pow_succ]
      congr 2; omega
theorem dn_pos (two i : Nat) : 0 < dnN two i := by
  unfold dnN; split
  · exact Nat.pow_pos (by decide)
  · exact Nat.mul_pos (Nat.pow_pos (by decide)) (Nat.pow_pos (by decide))
theorem dn_mono (two i j : Nat) (h : i ≤ j) : dnN two i ≤ dnN two j := by
  obtain ⟨k, rfl⟩ : ∃ k, j = i + k := ⟨j - i, by omega⟩
  induction k with
  | zero => exact Nat.le_refl _
  | succ k ih =>
    refine Nat.le_trans (ih (by omega)) ?_
    rw [← Nat.add_assoc, dn_step]
    exact Nat.le_mul_of_pos_right _ (by split <;> decide)
theorem dn_end (two five : Nat) : dnN two (two + five) = 2 ^ two * 5 ^ five := by
  unfold dnN
  by_cases h : five = 0
  · subst h; rw [if_pos (by omega)]; simp
  · rw [if_neg (by omega), Nat.add_sub_cancel_left]
theorem fitE_den {neg : Bool} {V D : Nat} (hV : V ≠ 0) (h : 9223372036854775807 < D) : fitE neg V D = none := by unfold fitE; rw [if_neg hV, if_pos (.inl h)]
theorem fitE_num {neg : Bool} {V D : Nat} (h : 9223372036854775808 < V) : fitE neg V D = none := by unfold fitE; rw [if_neg (by omega), if_pos (.inr (.inl h))]
theorem below_or {w w' : World} {e : TypeId} {s : ByteArray} (h : w' = w ∨ w' = Lib.bytesWorld w e s) : Below w.heap.size w w' := by
  rcases h with rfl | rfl
  · exact Below.refl _ _
  · exact Joins.below_bytesWorld _ w e s (Nat.le_refl _)
theorem half_inv {v V two back : Nat} (h : v * 2 ^ (two + 1) = V * 2 ^ back) (hV : V % 2 = 0) : v * 2 ^ two = V / 2 * 2 ^ back := by
  obtain ⟨k, rfl⟩ := Nat.dvd_of_mod_eq_zero hV
  rw [Nat.mul_div_cancel_left _ (by decide)]
  rw [Nat.pow_succ, ← Nat.mul_assoc, Nat.mul_comm _ 2, Nat.mul_assoc 2 k] at h
  exact Nat.eq_of_mul_eq_mul_left (by decide) h
theorem fifth_inv {x V five back : Nat} (h : x * 5 ^ (five + 1) = V * 5 ^ back) (hV : V % 5 = 0) : x * 5 ^ five = V / 5 * 5 ^ back := by
  obtain ⟨k, rfl⟩ := Nat.dvd_of_mod_eq_zero hV
  rw [Nat.mul_div_cancel_left _ (by decide)]
  rw [Nat.pow_succ, ← Nat.mul_assoc, Nat.mul_comm _ 5, Nat.mul_assoc 5 k] at h
  exact Nat.eq_of_mul_eq_mul_left (by decide) h
theorem dec_len_mono {a b : Nat} (h : a ≤ b) : (Lib.decDigits a).length ≤ (Lib.decDigits b).length := by
  obtain ⟨k, h1, h2, _⟩ := dec_len b
  rw [h1, padD_len]
  exact dec_len_le a (k + 1) (Nat.lt_of_le_of_lt h h2) (by omega)
theorem dec_ge {V : Nat} (h : 19 < (Lib.decDigits V).length) : 10000000000000000000 ≤ V := by
  obtain ⟨k, h1, h2, h3⟩ := dec_len V
  rw [h1, padD_len] at h
  rcases h3 with rfl | h3
  · omega
  · exact Nat.le_trans (show 10000000000000000000 ≤ 10 ^ k from Nat.le_trans (by decide) (Nat.pow_le_pow_right (by decide) (show 19 ≤ k by omega))) h3
theorem dec_lt {V : Nat} (h : ¬ 19 < (Lib.decDigits V).length) : V < 10000000000000000000 := by
  obtain ⟨k, h1, h2, h3⟩ := dec_len V
  rw [h1, padD_len] at h
  exact Nat.lt_of_lt_of_le h2 (Nat.le_trans (Nat.pow_le_pow_right (by decide) (show k + 1 ≤ 19 by omega)) (by decide))

set_option maxRecDepth 100000 in
set_option maxHeartbeats 4000000 in
theorem long_any (neg : Bool) (v back : Nat) (hv : 0 < v) (hb : back ≤ 62) (hlen : (Lib.decDigits v).length ≤ 200) (w : World) :
    Calls Tryz.prog 63 #[.bool neg, .string ⟨(Lib.decDigits v).toArray⟩, .int .i64 back] w fun e w' => e = .returned (ratV (frac neg v (10 ^ back))) ∧ Below w.heap.size w w' := by
  obtain ⟨F, hF⟩ : ∃ F, F = frac neg v (10 ^ back) := ⟨_, rfl⟩
  rw [← hF]
  have HF := Lib.hid hF
  clear hF
  obtain ⟨tr, hsz, hbw⟩ := box1 w #[.int .i64 0, .int .i64 0] 40
  have TR := Lib.hid tr
  have HBW := Lib.hid hbw
  clear tr hsz hbw
  go_enter Tryz.func63, Tryz.ntmps63
  go_wp2_with fail
  generalize w.alloc (.cells #[.int .i64 0, .int .i64 0] 40) = W at *
  go_loopw [1, 8] (fun s x wr => ∃ V two : Nat, s = .string ⟨(Lib.decDigits V).toArray⟩ ∧ x = .int .i64 (two : Nat) ∧ two ≤ back ∧ 0 < V ∧ V ≤ v ∧ v * 2 ^ two = V * 2 ^ back ∧ wr = W) (fun _ x _ => (intOf x).toNat)
  case atStart => exact ⟨v, back, rfl, rfl, Nat.le_refl _, hv, Nat.le_refl _, rfl, rfl⟩
  case round =>
    obtain ⟨V, two, rfl, rfl, htw, hV0, hVv, hinv, rfl⟩ := hrel
    have HINV := Lib.hid hinv
    have hVl := Nat.le_trans (dec_len_mono hVv) hlen
    have cd : V % 2 = 0 → ∀ w : World, Calls Tryz.prog 96 #[.string ⟨(Lib.decDigits V).toArray⟩, .int .i64 2] w fun e w' => e = .returned (.string ⟨(Lib.decDigits (V / 2)).toArray⟩) ∧ w' = w := fun h w => divided_digits V 2 hV0 (by decide) (by decide) h (by omega) w
    obtain ⟨p, hp, hlt, hget⟩ := last_dig V
    have hdv : ((dgt V).toNat : Int) = 48 + ((V % 10 : Nat) : Int) := by rw [dgt_val]; omega
    have hsub : ((Lib.decDigits V).length : Int) - 1 = (p : Int) := by omega
    have hm9 : V % 10 ≤ 9 := by omega
    clear hinv
    generalize hL : Lib.decDigits V = L at *
    have HL := Lib.hid hL
    clear hL
    generalize dgt V = c at *
    have HP := Lib.hid hp
    clear hp
    obtain ⟨b, hb⟩ : ∃ b, b = decide (0 < two ∧ V % 2 = 0) := ⟨_, rfl⟩
    go_upto_region 2 with fail
    go_cut [28] (fun x wc => x = .bool b ∧ wc = wr)
    case first =>
      by_cases h0 : 0 < two
      · have h0' : (0 : Int) < two := by omega
        by_cases h2 : V % 2 = 0
        · have hb1 : b = true := by rw [hb]; exact decide_eq_true ⟨h0, h2⟩
          have e1 : (48 + ((V % 10 : Nat) : Int) - 48) % 2 = 0 := by omega
          subst hb1
          generalize V % 10 = m at *
          clear cd hb h2
          go_wp2_with fail
          go_meet
          case rel => exact ⟨rfl, rfl⟩
        · have hb1 : b = false := by rw [hb]; exact decide_eq_false (fun h => h2 h.2)
          have e1 : (48 + ((V % 10 : Nat) : Int) - 48) % 2 = 1 := by omega
          subst hb1
          generalize V % 10 = m at *
          clear cd hb h2
          go_wp2_with fail
          go_meet
          case rel => exact ⟨rfl, rfl⟩
      · have h0' : ¬ (0 : Int) < two := by omega
        have hb1 : b = false := by rw [hb]; exact decide_eq_false (fun h => h0 h.1)
        subst hb1
        clear cd hb
        go_wp2_with fail
        go_meet
        case rel => exact ⟨rfl, rfl⟩
    case rest =>
      obtain ⟨rfl, rfl⟩ := hcut
      clear hlt hget hdv hsub hm9
      cases b
      · have hend : two = 0 ∨ V % 2 ≠ 0 := by
          rcases Nat.eq_zero_or_pos two with h | h
          · exact .inl h
          · right; intro h2; rw [decide_eq_true ⟨h, h2⟩] at hb; cases hb
        clear cd hb
        have hl := HL.out
        subst hl
        clear HL HP
        go_wp2_with fail
        go_loopw [1, 9] (fun s x ws => ∃ X five : Nat, s = .string ⟨(Lib.decDigits X).toArray⟩ ∧ x = .int .i64 (five : Nat) ∧ five ≤ back ∧ 0 < X ∧ X ≤ V ∧ V * 5 ^ five = X * 5 ^ back ∧ (two = 0 ∨ X % 2 ≠ 0) ∧ ws = wc) (fun _ x _ => (intOf x).toNat)
        case atStart => exact ⟨V, back, rfl, rfl, Nat.le_refl _, hV0, Nat.le_refl _, rfl, hend, rfl⟩
        case round =>
          obtain ⟨X, five, rfl, rfl, hfw, hX0, hXV, hinv5, hend2, rfl⟩ := hrel
          have HINV5 := Lib.hid hinv5
          have HEND2 := Lib.hid hend2
          have hXl := Nat.le_trans (dec_len_mono (Nat.le_trans hXV hVv)) hlen
          have cd : X % 5 = 0 → ∀ w : World, Calls Tryz.prog 96 #[.string ⟨(Lib.decDigits X).toArray⟩, .int .i64 5] w fun e w' => e = .returned (.string ⟨(Lib.decDigits (X / 5)).toArray⟩) ∧ w' = w := fun h w => divided_digits X 5 hX0 (by decide) (by decide) h (by omega) w
          obtain ⟨p, hp, hlt, hget⟩ := last_dig X
          have hdv : ((dgt X).toNat : Int) = 48 + ((X % 10 : Nat) : Int) := by rw [dgt_val]; omega
          have hsub : ((Lib.decDigits X).length : Int) - 1 = (p : Int) := by omega
          have hm9 : X % 10 ≤ 9 := by omega
          clear hinv5 hend hend2
          generalize hL : Lib.decDigits X = L at *
          have HL := Lib.hid hL
          clear hL
          generalize dgt X = c at *
          have HP := Lib.hid hp
          clear hp
          obtain ⟨b, hb⟩ : ∃ b, b = decide (0 < five ∧ X % 5 = 0) := ⟨_, rfl⟩
          go_upto_region 5 with fail
          go_cut [43] (fun x wc => x = .bool b ∧ wc = wr)
          case first =>
            by_cases h0 : 0 < five
            · have h0' : (0 : Int) < five := by omega
              by_cases h2 : X % 5 = 0
              · have hb1 : b = true := by rw [hb]; exact decide_eq_true ⟨h0, h2⟩
                have e1 : (48 + ((X % 10 : Nat) : Int)) % 5 = 3 := by omega
                subst hb1
                generalize X % 10 = m at *
                clear cd hb h2
                go_wp2_with fail
                go_meet
                case rel => exact ⟨rfl, rfl⟩
              · have hb1 : b = false := by rw [hb]; exact decide_eq_false (fun h => h2 h.2)
                have e1 : ¬ (48 + ((X % 10 : Nat) : Int)) % 5 = 3 := by omega
                have e2 : (((48 + ((X % 10 : Nat) : Int)) % 5 == 3) = false) := by rw [beq_eq_false_iff_ne]; exact e1
                subst hb1
                generalize X % 10 = m at *
                clear cd hb h2
                go_wp2_with fail
                go_meet
                case rel => exact ⟨rfl, rfl⟩
            · have h0' : ¬ (0 : Int) < five := by omega
              have hb1 : b = false := by rw [hb]; exact decide_eq_false (fun h => h0 h.1)
              subst hb1
              clear cd hb
              go_wp2_with fail
              go_meet
              case rel => exact ⟨rfl, rfl⟩
          case rest =>
            obtain ⟨rfl, rfl⟩ := hcut
            clear hlt hget hdv hsub hm9
            cases b
            · have hend5 : five = 0 ∨ X % 5 ≠ 0 := by
                rcases Nat.eq_zero_or_pos five with h | h
                · exact .inl h
                · right; intro h2; rw [decide_eq_true ⟨h, h2⟩] at hb; cases hb
              clear cd hb
              have hl := HL.out
              subst hl
              clear HL HP
              have HFX : Hid (F = fitE neg X (2 ^ two * 5 ^ five)) := Lib.hid (by
                rw [HF.out, long_frac (V := X) (two := two) (five := five) (by
                  rw [← Nat.mul_assoc, HINV.out, Nat.mul_right_comm, HINV5.out, Nat.mul_assoc, ← Nat.mul_pow]), frac_cop (cop_end HEND2.out hend5)])
              clear HF HINV HINV5 HEND2 hend5
              have h2w : ¬ (62 : Int) < two := by omega
              by_cases h19 : (19 : Int) < (Lib.decDigits X).length
              · have HN := Lib.hid (show F = none by rw [HFX.out]; exact fitE_num (Nat.lt_of_lt_of_le (by decide) (dec_ge (V := X) (by omega))))
                obtain ⟨r0, r1, r2, r3⟩ := TR.out.two
                go_wp2_with fail
                exact bodyPost_ret (v := .tuple #[.agg #[.int .i64 0, .int .i64 0], errV 9]) (by simp [results, Tryz.results63, go_sem, r0, r1, errV]) rfl ⟨by rw [HN.out]; rfl, (HBW.out.setCell (by simp) _).setCell (by simp) _⟩
              by_cases h27 : (27 : Int) < five
              · have HN := Lib.hid (show F = none by rw [HFX.out]; exact fitE_den (by omega) (Nat.lt_of_lt_of_le (show 9223372036854775807 < 5 ^ 28 by decide) (Nat.le_trans (Nat.pow_le_pow_right (by decide) (show 28 ≤ five by omega)) (Nat.le_mul_of_pos_left _ (Nat.pow_pos (by decide))))))
                obtain ⟨r0, r1, r2, r3⟩ := TR.out.two
                go_wp2_with fail
                exact bodyPost_ret (v := .tuple #[.agg #[.int .i64 0, .int .i64 0], errV 9]) (by simp [results, Tryz.results63, go_sem, r0, r1, errV]) rfl ⟨by rw [HN.out]; rfl, (HBW.out.setCell (by simp) _).setCell (by simp) _⟩
              have hXlt : X < 10000000000000000000 := dec_lt (by omega)
              have cp := Tryz.strconv_ParseUint_10_at64_ok ⟨(Lib.decDigits X).toArray⟩ (by show (Lib.decDigits X).length ≤ _; omega) X (by
                show Lib.parseUintB 64 (Lib.decDigits X) = _
                have := pu_ok (dec_digL X) (by intro h; have h3 := dec_valL X; rw [h] at h3; simp [valL, valS] at h3; omega) (by rw [dec_valL]; omega)
                rwa [dec_valL] at this)
              generalize Lib.decDigits X = L at *
              go_upto_region 10 with fail
              go_wp2_with fail
              with_reducible refine (cp _).mono ?_
              rintro e w1 ⟨rfl, hb1⟩
              clear cp
              replace hb1 := below_or hb1
              have TR1 := Lib.hid (TR.out.keep hb1 (Nat.le_refl _))
              have HB1 := Lib.hid (show Below w.heap.size w w1 from bstep HBW.out hb1 (Nat.le_refl _))
              clear hb1
              go_wp2_with fail
              go_loopw [12, 13] (fun d x ws => ∃ i : Nat, d = .int .u64 (dnN two i : Nat) ∧ dnN two i ≤ 9223372036854775807 ∧ x = .int .i64 (i : Nat) ∧ i ≤ two + five ∧ ws = w1) (fun _ x _ => two + five - (intOf x).toNat)
              case atStart => exact ⟨0, rfl, by simp [dnN], rfl, Nat.zero_le _, rfl⟩
              case round =>
                obtain ⟨i, rfl, hd, rfl, hi, rfl⟩ := hrel
                have HD := Lib.hid hd
                have hdI : ((dnN two i : Nat) : Int) ≤ 9223372036854775807 := by omega
                clear hd
                by_cases hlt : (i : Int) < (two : Int) + (five : Int)
                · have hst := dn_step two i
                  by_cases hge : two ≤ i
                  · have hgeI : (two : Int) ≤ (i : Int) := by omega
                    rw [if_pos hge] at hst
                    by_cases hov : 1844674407370955161 < dnN two i
                    · have HN := Lib.hid (show F = none by
                        rw [HFX.out, ← dn_end]
                        exact fitE_den (by omega) (Nat.lt_of_lt_of_le (by omega) (dn_mono two (i + 1) (two + five) (by omega))))
                      have hovI : (1844674407370955161 : Int) < (dnN two i : Nat) := by omega
                      clear hst
                      generalize dnN two i = d at *
                      obtain ⟨r0, r1, r2, r3⟩ := TR1.out.two
                      go_wp2_with fail
                      exact bodyPost_ret (v := .tuple #[.agg #[.int .i64 0, .int .i64 0], errV 9]) (by simp [results, Tryz.results63, go_sem, r0, r1, errV]) rfl ⟨by rw [HN.out]; rfl, (HB1.out.setCell (by simp) _).setCell (by simp) _⟩
                    · have HS := Lib.hid (And.intro hst (show dnN two i * 5 ≤ 9223372036854775807 by omega))
                      have hovI : ¬ (1844674407370955161 : Int) < (dnN two i : Nat) := by omega
                      clear hst
                      generalize dnN two i = d at *
                      have hm : (d : Int) * 5 ≤ 9223372036854775807 := by omega
                      go_wp2_with fail
                      go_roundw
                      case rel => exact ⟨i + 1, by rw [HS.out.1]; first | rfl | go_num, by rw [HS.out.1]; exact HS.out.2, by go_num, by omega, trivial⟩
                      case measure => (simp [intOf] <;> omega)
                  · have hgeI : ¬ (two : Int) ≤ (i : Int) := by omega
                    rw [if_neg hge] at hst
                    by_cases hov : 4611686018427387903 < dnN two i
                    · have HN := Lib.hid (show F = none by
                        rw [HFX.out, ← dn_end]
                        exact fitE_den (by omega) (Nat.lt_of_lt_of_le (by omega) (dn_mono two (i + 1) (two + five) (by omega))))
                      have hovI : (4611686018427387903 : Int) < (dnN two i : Nat) := by omega
                      clear hst
                      generalize dnN two i = d at *
                      obtain ⟨r0, r1, r2, r3⟩ := TR1.out.two
                      go_wp2_with fail
                      exact bodyPost_ret (v := .tuple #[.agg #[.int .i64 0, .int .i64 0], errV 9]) (by simp [results, Tryz.results63, go_sem, r0, r1, errV]) rfl ⟨by rw [HN.out]; rfl, (HB1.out.setCell (by simp) _).setCell (by simp) _⟩
                    · have HS := Lib.hid (And.intro hst (show dnN two i * 2 ≤ 9223372036854775807 by omega))
                      have hovI : ¬ (4611686018427387903 : Int) < (dnN two i : Nat) := by omega
                      clear hst
                      generalize dnN two i = d at *
                      have hm : (d : Int) * 2 ≤ 9223372036854775807 := by omega
                      go_wp2_with fail
                      go_roundw
                      case rel => exact ⟨i + 1, by rw [HS.out.1]; first | rfl | go_num, by rw [HS.out.1]; exact HS.out.2, by go_num, by omega, trivial⟩
                      case measure => (simp [intOf] <;> omega)
                · obtain rfl : i = two + five := by omega
                  have HDE := Lib.hid (show dnN two (two + five) = 2 ^ two * 5 ^ five from dn_end two five)
                  have cf := fit_any neg X (dnN two (two + five)) (by omega) (by have := HD.out; omega)
                  rw [HDE.out, ← HFX.out, ← HDE.out, Nat.div_eq_of_lt (show X < 18446744073709551616 by omega), Nat.mod_eq_of_lt (show X < 18446744073709551616 by omega), Nat.div_eq_of_lt (show dnN two (two + five) < 18446744073709551616 by have := HD.out; omega), Nat.mod_eq_of_lt (show dnN two (two + five) < 18446744073709551616 by have := HD.out; omega)] at cf
                  clear HDE HD
                  generalize dnN two (two + five) = d at *
                  have cg : ∀ w : World, Calls Tryz.prog 30 #[.bool neg, .int .u64 0, .int .u64 (X : Nat), .int .u64 0, .int .u64 (d : Nat)] w fun e w' => e = .returned (ratV F) ∧ Below w.heap.size w w' := cf
                  clear cf HFX
                  go_wp2_with fail
                  with_reducible refine (cg _).mono ?_
                  rintro e w2 ⟨rfl, hb2⟩
                  clear cg
                  have TR2 := Lib.hid (TR1.out.keep hb2 (Nat.le_refl _))
                  have HB2 := Lib.hid (show Below w.heap.size w w2 from bstep HB1.out hb2 (Nat.le_refl _))
                  clear hb2
                  obtain ⟨r0, r1, r2, r3⟩ := TR2.out.two
                  rcases F with _ | ⟨x, y⟩
                  · simp only [ratV, errV]
                    go_wp2_with fail
                    exact bodyPost_ret (v := .tuple #[.agg #[.int .i64 0, .int .i64 0], errV 9]) (by simp [results, Tryz.results63, go_sem, r0, r1, errV]) rfl ⟨rfl, (HB2.out.setCell (by simp) _).setCell (by simp) _⟩
                  · simp only [ratV]
                    go_wp2_with fail
                    exact bodyPost_ret (v := .tuple #[.agg #[.int .i64 x, .int .i64 y], .nilIface]) (by simp [results, Tryz.results63, go_sem, r0, r1]) rfl ⟨rfl, (HB2.out.setCell (by simp) _).setCell (by simp) _⟩
            · obtain ⟨h0, h2⟩ := of_decide_eq_true hb.symm
              obtain ⟨t2, rfl⟩ : ∃ k, five = k + 1 := ⟨five - 1, by omega⟩
              have HNEXT := Lib.hid (fifth_inv HINV5.out h2)
              have HE2 : Hid (two = 0 ∨ X / 5 % 2 ≠ 0) := Lib.hid (by rcases HEND2.out with h | h; exact .inl h; right; omega)
              have cd2 := cd h2
              have hq : 0 < X / 5 := by omega
              have hq2 : X / 5 ≤ V := by omega
              clear cd hb
              generalize X / 5 = V2 at *
              have ht : ((t2 + 1 : Nat) : Int) - 1 = (t2 : Int) := by omega
              go_wp2_with fail
              with_reducible refine (cd2 _).mono ?_
              rintro e w1 ⟨rfl, rfl⟩
              clear cd2
              go_wp2_with fail
              go_roundw
              case rel => exact ⟨V2, t2, rfl, by first | rfl | go_num, by omega, hq, hq2, HNEXT.out, HE2.out, trivial⟩
              case measure => (simp [intOf] <;> omega)
      · obtain ⟨h0, h2⟩ := of_decide_eq_true hb.symm
        obtain ⟨t2, rfl⟩ : ∃ k, two = k + 1 := ⟨two - 1, by omega⟩
        have HNEXT := Lib.hid (half_inv HINV.out h2)
        have cd2 := cd h2
        have hq : 0 < V / 2 := by omega
        have hq2 : V / 2 ≤ v := by omega
        clear cd hb
        generalize V / 2 = V2 at *
        have ht : ((t2 + 1 : Nat) : Int) - 1 = (t2 : Int) := by omega
        go_wp2_with fail
        with_reducible refine (cd2 _).mono ?_
        rintro e w1 ⟨rfl, rfl⟩
        clear cd2
        go_wp2_with fail
        go_roundw
        case rel => exact ⟨V2, t2, rfl, by first | rfl | go_num, by omega, hq, hq2, HNEXT.out, trivial⟩
        case measure => simp [intOf]
end Go.Proofs.YtmifjfohanegiaaGreatDoor

namespace Go.Proofs.YtmifjfohanegiaaGreatDoor
set_option linter.unusedVariables false
open Go.RowKit

theorem ret_pair {k : IntKind} {a b c d : Int} (h1 : a = c) (h2 : b = d) : Ending.returned (.tuple #[.int k a, .int k b]) = .returned (.tuple #[.int k c, .int k d]) := by rw [h1, h2]

/-- what holds at the head of the loop that corrects a digit; the number is the digit so far -/
def QInv (Q U y1 : Nat) (g : Nat) (x rh : Value) (wr w1 : World) : Prop := ∃ p d : Nat, g = p ∧ x = .int .u64 (p : Nat) ∧ rh = .int .u64 (d : Nat) ∧ Q ≤ p ∧ p ≤ 4294967297 ∧ d < 4294967296 ∧ p * y1 + d = U ∧ wr = w1
def QEnd (Q : Nat) (x : Value) (wc w1 : World) : Prop := x = .int .u64 (Q : Nat) ∧ wc = w1

end Go.Proofs.YtmifjfohanegiaaGreatDoor

namespace Go.Proofs.YtmifjfohanegiaaGreatDoor
set_option linter.unusedVariables false
open Go.RowKit

/-! ### numbers of two words -/
theorem two_lt (P Q : Nat) : P < Q ↔ P / 18446744073709551616 < Q / 18446744073709551616 ∨ (P / 18446744073709551616 = Q / 18446744073709551616 ∧ P % 18446744073709551616 < Q % 18446744073709551616) := by omega
theorem two_mod (T g : Nat) : (T / 18446744073709551616 % g * 18446744073709551616 + T % 18446744073709551616) % g = T % g := by
  conv => rhs; rw [← Nat.div_add_mod T 18446744073709551616]
  rw [Nat.mul_comm, Nat.add_mod, Nat.mul_mod, Nat.mod_mod, ← Nat.mul_mod, ← Nat.add_mod]
theorem two_div_hi (T k : Nat) : T / k / 18446744073709551616 = T / 18446744073709551616 / k := by
  rw [Nat.div_div_eq_div_mul, Nat.div_div_eq_div_mul, Nat.mul_comm]
theorem two_div_lo (T k : Nat) (hk : 0 < k) : T / k % 18446744073709551616 = (T / 18446744073709551616 % k * 18446744073709551616 + T % 18446744073709551616) / k := by
  have h1 := Nat.div_add_mod T 18446744073709551616
  have h2 := Nat.div_add_mod (T / 18446744073709551616) k
  have h3 := Nat.mod_lt (T / 18446744073709551616) hk
  have h4 := Nat.mod_lt T (show 0 < 18446744073709551616 by decide)
  generalize T / 18446744073709551616 = h at *
  generalize T % 18446744073709551616 = l at *
  generalize h % k = r at *
  generalize h / k = c at *
  have e : T = k * (c * 18446744073709551616) + (r * 18446744073709551616 + l) := by
    rw [← Nat.mul_assoc]
    generalize k * c = X at *
    omega
  have h5 : (r * 18446744073709551616 + l) / k < 18446744073709551616 := by
    rw [Nat.div_lt_iff_lt_mul hk]
    have := Nat.mul_le_mul_left 18446744073709551616 (show r + 1 ≤ k from h3)
    omega
  rw [e, Nat.mul_add_div hk]
  clear e h1 h2 h4
  generalize (r * 18446744073709551616 + l) / k = z at *
  omega
end Go.Proofs.YtmifjfohanegiaaGreatDoor

namespace Go.Proofs.YtmifjfohanegiaaGreatDoor
set_option linter.unusedVariables false
open Go.RowKit

theorem bdrN {B : Nat} {a w : World} (h : Below B a w) (n : Nat) : Below B a (w.drewN n) := ⟨h.os, h.tape, h.output, h.size, h.block⟩
def argV : Value := .tuple #[.agg #[.int .i64 0, .int .i64 0], errV 1]

end Go.Proofs.YtmifjfohanegiaaGreatDoor

namespace Go.Proofs.YtmifjfohanegiaaGreatDoor
set_option linter.unusedVariables false
open Go.RowKit

def BoolIs (b : Bool) (x : Value) : Prop := x = .bool b
def SumAt (N : Bool) (T : Nat) (h l ng : Value) (wc w2 : World) : Prop :=
  h = .int .u64 (T / 18446744073709551616 : Nat) ∧ l = .int .u64 (T % 18446744073709551616 : Nat) ∧ ng = .bool N ∧ ∃ m, wc = w2.drewN m

end Go.Proofs.YtmifjfohanegiaaGreatDoor

namespace Go.Proofs.YtmifjfohanegiaaGreatDoor
set_option linter.unusedVariables false
open Go.RowKit

theorem ratV_shape (F : Option (Int × Int)) : ∃ n d er, ratV F = .tuple #[.agg #[.int .i64 n, .int .i64 d], er] := by
  cases F with
  | none => exact ⟨0, 0, errV 9, rfl⟩
  | some p => exact ⟨p.1, p.2, .nilIface, rfl⟩

set_option maxRecDepth 100000 in
set_option maxHeartbeats 1000000 in
theorem product_any (neg : Bool) (an ad bn bd : Nat) (ha : Nat.gcd an ad = 1) (hb : Nat.gcd bn bd = 1) (h1 : 0 < ad) (h2 : 0 < bd) (k1 : an < 18446744073709551616) (k2 : ad < 18446744073709551616) (k3 : bn < 18446744073709551616) (k4 : bd < 18446744073709551616) (w : World) :
    Calls Tryz.prog 99 #[.bool neg, .int .u64 an, .int .u64 ad, .int .u64 bn, .int .u64 bd] w fun e w' => e = .returned (ratV (fracI (sgn neg (an * bn)) (ad * bd))) ∧ Below w.heap.size w w' := by
  obtain ⟨g, hg⟩ : ∃ g, g = Nat.gcd bd an := ⟨_, rfl⟩
  obtain ⟨k, hk⟩ : ∃ k, k = Nat.gcd ad bn := ⟨_, rfl⟩
  have hF := prod_frac neg an ad bn bd ha hb h1 h2 g k hg hk
  have hg0 : 0 < g := hg ▸ Nat.gcd_pos_of_pos_left _ h2
  have hk0 : 0 < k := hk ▸ Nat.gcd_pos_of_pos_left _ h1
  have hgle : g ≤ bd := hg ▸ Nat.gcd_le_left _ h2
  have hkle : k ≤ ad := hk ▸ Nat.gcd_le_left _ h1
  have cg := fun w' => gcd_drew an bd k1 k4 w'
  have ck := fun w' => gcd_drew bn ad k3 k2 w'
  rw [← hg] at cg
  rw [← hk] at ck
  clear ha hb hg hk
  have d1 : an / g ≤ an := Nat.div_le_self _ _
  have d2 : bn / k ≤ bn := Nat.div_le_self _ _
  have d3 : ad / k ≤ ad := Nat.div_le_self _ _
  have d4 : bd / g ≤ bd := Nat.div_le_self _ _
  have v1 : IntKind.u64.wrap ((an : Int) / (g : Int)) = ((an / g : Nat) : Int) := by rw [← Int.natCast_ediv]; exact wrapN _ (by omega)
  have v2 : IntKind.u64.wrap ((bn : Int) / (k : Int)) = ((bn / k : Nat) : Int) := by rw [← Int.natCast_ediv]; exact wrapN _ (by omega)
  have v3 : IntKind.u64.wrap ((ad : Int) / (k : Int)) = ((ad / k : Nat) : Int) := by rw [← Int.natCast_ediv]; exact wrapN _ (by omega)
  have v4 : IntKind.u64.wrap ((bd : Int) / (g : Int)) = ((bd / g : Nat) : Int) := by rw [← Int.natCast_ediv]; exact wrapN _ (by omega)
  have m1 := Nat.mul_le_mul (show an / g ≤ 18446744073709551615 by omega) (show bn / k ≤ 18446744073709551615 by omega)
  have m2 := Nat.mul_le_mul (show ad / k ≤ 18446744073709551615 by omega) (show bd / g ≤ 18446744073709551615 by omega)
  have cM := Tryz.bits_Mul64 (an / g) (bn / k) (by omega) (by omega)
  have cD := Tryz.bits_Mul64 (ad / k) (bd / g) (by omega) (by omega)
  have cF := fit_any neg (an / g * (bn / k)) (ad / k * (bd / g)) (by omega) (by omega)
  rw [hF] at cF
  clear hF m1 m2 d1 d2 d3 d4
  generalize fracI (sgn neg (an * bn)) (ad * bd) = F at *
  generalize an / g * (bn / k) = M at *
  generalize ad / k * (bd / g) = D at *
  generalize an / g = x1 at *
  generalize bn / k = x2 at *
  generalize ad / k = x3 at *
  generalize bd / g = x4 at *
  generalize M / 18446744073709551616 = mh at *
  generalize M % 18446744073709551616 = ml at *
  generalize D / 18446744073709551616 = dh at *
  generalize D % 18446744073709551616 = dl at *
  have gz : ¬ g = 0 := by omega
  have kz : ¬ k = 0 := by omega
  have gz2 : ((g : Int) == 0) = false := by rw [beq_eq_false_iff_ne]; omega
  have kz2 : ((k : Int) == 0) = false := by rw [beq_eq_false_iff_ne]; omega
  have i1 : (an : Int) ≤ 18446744073709551615 := by omega
  have i2 : (ad : Int) ≤ 18446744073709551615 := by omega
  have i3 : (bn : Int) ≤ 18446744073709551615 := by omega
  have i4 : (bd : Int) ≤ 18446744073709551615 := by omega
  have i5 : (g : Int) ≤ 18446744073709551615 := by omega
  have i6 : (k : Int) ≤ 18446744073709551615 := by omega
  clear h1 h2 k1 k2 k3 k4 hg0 hk0 hgle hkle
  have hbx := box1 w #[.int .i64 0, .int .i64 0] 40
  obtain ⟨tr, hsz, hbw⟩ := hbx
  have TR := Lib.hid tr
  have HSZ := Lib.hid hsz
  have HBW := Lib.hid hbw
  clear tr hsz hbw
  go_enter Tryz.func99, Tryz.ntmps99
  go_wp2_with fail
  with_reducible refine (cg _).mono ?_
  rintro e w1 ⟨rfl, m1, rfl⟩
  go_wp2_with fail
  with_reducible refine (ck _).mono ?_
  rintro e w1 ⟨rfl, m2, rfl⟩
  clear cg ck
  go_wp2_with fail
  go_quiet ((go_at_call 93; exact (cM _).mono fun e w1 ⟨he, hw⟩ => ⟨he, _, hw⟩))
  go_wp2_with fail
  go_quiet ((go_at_call 93; exact (cD _).mono fun e w1 ⟨he, hw⟩ => ⟨he, _, hw⟩))
  clear cM cD v1 v2 v3 v4
  go_wp2_with fail
  with_reducible refine (cF _).mono ?_
  rintro e w2 ⟨rfl, hb2⟩
  obtain ⟨r0, r1, r2, r3⟩ := ((TR.out.drewN _).keep hb2 (Nat.le_refl _)).two
  have HB3 := Lib.hid (show Below w.heap.size w w2 from bstep (bdrN HBW.out _) hb2 (Nat.le_refl _))
  clear hb2 cF
  obtain ⟨n, d, er, hfv⟩ := ratV_shape F
  have HFV := Lib.hid hfv
  rw [hfv]
  clear hfv
  go_wp2_with fail
  exact bodyPost_ret (v := .tuple #[.agg #[.int .i64 n, .int .i64 d], er]) (by simp [results, Tryz.results99, go_sem, r0, r1]) rfl ⟨by rw [HFV.out], (HB3.out.setCell (by simp) _).setCell (by simp) _⟩
end Go.Proofs.YtmifjfohanegiaaGreatDoor

namespace Go.Proofs.YtmifjfohanegiaaGreatDoor
set_option linter.unusedVariables false
open Go.RowKit

theorem sgn_mul2 (a b : Int) : sgn (decide (a < 0) != decide (b < 0)) (a.natAbs * b.natAbs) = a * b := by
  rw [sgn_mul]
  by_cases h1 : a < 0 <;> by_cases h2 : b < 0 <;> simp only [h1, h2, decide_true, decide_false, bne_self_eq_false, Bool.true_bne, Bool.false_bne, Bool.not_false, sgn, if_true, Bool.false_eq_true, if_false]
  · rw [← Int.neg_mul_neg a b]; congr 1 <;> omega
  · rw [show (-(a.natAbs : Int)) = a by omega, show (b.natAbs : Int) = b by omega]
  · rw [show (-(a.natAbs : Int)) = -a by omega, show (b.natAbs : Int) = -b by omega, Int.neg_mul_neg]
  · congr 1 <;> omega

end Go.Proofs.YtmifjfohanegiaaGreatDoor

namespace Go.Proofs.YtmifjfohanegiaaGreatDoor
set_option linter.unusedVariables false
open Go.RowKit

def zeroV : Value := .tuple #[.agg #[.int .i64 0, .int .i64 0], errV 10]
theorem sgn_div2 (a b : Int) (E : Nat) : sgn (decide (a < 0) != decide (b < 0)) (a.natAbs * E) = if b < 0 then -(a * E) else a * E := by
  rw [sgn_mul]
  by_cases h1 : a < 0 <;> by_cases h2 : b < 0 <;> simp only [h1, h2, decide_true, decide_false, bne_self_eq_false, Bool.true_bne, Bool.false_bne, Bool.not_false, sgn, if_true, Bool.false_eq_true, if_false]
  · rw [show (a.natAbs : Int) = -a by omega, Int.neg_mul]
  · rw [show (-(a.natAbs : Int)) = a by omega]
  · rw [show (-(a.natAbs : Int)) = -a by omega, Int.neg_mul]
  · rw [show (a.natAbs : Int) = a by omega]

/-- what sum answers, of whatever two -/
def sumV (na da nb db : Int) (less : Bool) : Value :=
  if rightB na da && rightB nb db then ratV (fracI (na * db + (if less then -nb else nb) * da) (da.natAbs * db.natAbs)) else argV
def mulV (na da nb db : Int) : Value := if rightB na da && rightB nb db then ratV (fracI (na * nb) (da.natAbs * db.natAbs)) else argV
def divV (na da nb db : Int) : Value :=
  if rightB na da && rightB nb db then (if nb = 0 then zeroV else ratV (fracI (if nb < 0 then -(na * db) else na * db) (da.natAbs * nb.natAbs))) else argV

theorem sumV_shape (na da nb db : Int) (less : Bool) : ∃ n d er, sumV na da nb db less = .tuple #[.agg #[.int .i64 n, .int .i64 d], er] := by
  unfold sumV
  split
  · exact ratV_shape _
  · exact ⟨0, 0, errV 1, rfl⟩

set_option maxRecDepth 100000 in
set_option maxHeartbeats 2000000 in
theorem div_bad (na da nb db : Int) (h1 : In64 na) (h2 : In64 da) (h3 : In64 nb) (h4 : In64 db) (hb : rightB na da = false ∨ rightB nb db = false) (w : World) :
    Calls Tryz.prog 65 #[.agg #[.int .i64 na, .int .i64 da], .agg #[.int .i64 nb, .int .i64 db]] w fun e w' => e = .returned argV ∧ Below w.heap.size w w' := by
  have ca := right_any na da h1 h2
  have cb := right_any nb db h3 h4
  have hbx := box3 w #[.int .i64 na, .int .i64 da] #[.int .i64 nb, .int .i64 db] #[.int .i64 0, .int .i64 0] 40 40 40
  obtain ⟨ta, tb, tr, hsz, hbw⟩ := hbx
  have TA := Lib.hid ta
  have TB := Lib.hid tb
  have TR := Lib.hid tr
  have HSZ := Lib.hid hsz
  have HBW := Lib.hid hbw
  clear ta tb tr hsz hbw
  cases ha : rightB na da
  · rw [ha] at ca
    go_enter Tryz.func65, Tryz.ntmps65
    go_wp2_with fail
    refine (ca _).mono ?_
    rintro e w1 ⟨rfl, hb1⟩
    clear ca cb
    obtain ⟨r0, r1, r2, r3⟩ := (TR.out.keep hb1 (Nat.le_refl _)).two
    have HFIN := Lib.hid (HBW.out.trans (hb1.mono (by rw [HSZ.out]; omega)))
    clear hb1
    go_wp2_with fail
    exact bodyPost_ret (v := argV) (by simp [results, Tryz.results65, go_sem, argV, errV, r0, r1]) rfl ⟨rfl, (HFIN.out.setCell (by simp; omega) _).setCell (by simp; omega) _⟩
  · have hb' : rightB nb db = false := by
      rcases hb with h | h
      · rw [ha] at h; cases h
      · exact h
    rw [ha] at ca
    rw [hb'] at cb
    go_enter Tryz.func65, Tryz.ntmps65
    go_wp2_with fail
    refine (ca _).mono ?_
    rintro e w1 ⟨rfl, hb1⟩
    clear ca
    have TB1 := Lib.hid (TB.out.keep hb1 (Nat.le_refl _))
    have TR1 := Lib.hid (TR.out.keep hb1 (Nat.le_refl _))
    have HFIN := Lib.hid (HBW.out.trans (hb1.mono (by rw [HSZ.out]; omega)))
    obtain ⟨b0, b1, b2, b3⟩ := TB1.out.two
    clear hb1
    go_wp2_with fail
    refine (cb _).mono ?_
    rintro e w2 ⟨rfl, hb2⟩
    obtain ⟨r0, r1, r2, r3⟩ := (TR1.out.keep hb2 (Nat.le_refl _)).two
    have HFIN2 := Lib.hid (bstep HFIN.out hb2 (Nat.le_refl _))
    clear hb2 b0 b1 b2 b3
    go_wp2_with fail
    exact bodyPost_ret (v := argV) (by simp [results, Tryz.results65, go_sem, argV, errV, r0, r1]) rfl ⟨rfl, (HFIN2.out.setCell (by simp; omega) _).setCell (by simp; omega) _⟩

set_option maxRecDepth 100000 in
set_option maxHeartbeats 2000000 in
theorem div_zero (na da nb db : Int) (ha : RightP na da) (hb : RightP nb db) (hn0 : nb = 0) (w : World) :
    Calls Tryz.prog 65 #[.agg #[.int .i64 na, .int .i64 da], .agg #[.int .i64 nb, .int .i64 db]] w fun e w' =>
      e = .returned zeroV ∧ Below w.heap.size w w' := by
  have HRA := Lib.hid ha
  have HRB := Lib.hid hb
  obtain ⟨a1, a2, a3, a4, a5⟩ := ha
  obtain ⟨b1, b2, b3, b4, b5⟩ := hb
  have ra : rightB na da = true := (rightB_iff na da ⟨by omega, by omega⟩ ⟨by omega, by omega⟩).2 HRA.out
  have rb : rightB nb db = true := (rightB_iff nb db ⟨by omega, by omega⟩ ⟨by omega, by omega⟩).2 HRB.out
  have ca := right_any na da ⟨by omega, by omega⟩ ⟨by omega, by omega⟩
  have cb := right_any nb db ⟨by omega, by omega⟩ ⟨by omega, by omega⟩
  rw [ra] at ca
  rw [rb] at cb
  clear a5 b5 ra rb
  have nz1 : (nb == 0) = true := by rw [beq_iff_eq]; exact hn0
  clear hn0
  have hbx := box3 w #[.int .i64 na, .int .i64 da] #[.int .i64 nb, .int .i64 db] #[.int .i64 0, .int .i64 0] 40 40 40
  obtain ⟨ta, tb, tr, hsz, hbw⟩ := hbx
  have TA := Lib.hid ta
  have TB := Lib.hid tb
  have TR := Lib.hid tr
  have HSZ := Lib.hid hsz
  have HBW := Lib.hid hbw
  clear ta tb tr hsz hbw
  go_enter Tryz.func65, Tryz.ntmps65
  go_wp2_with fail
  with_reducible refine (ca _).mono ?_
  rintro e w1 ⟨rfl, hb1⟩
  clear ca
  have TA1 := Lib.hid (TA.out.keep hb1 (Nat.le_refl _))
  have TB1 := Lib.hid (TB.out.keep hb1 (Nat.le_refl _))
  have TR1 := Lib.hid (TR.out.keep hb1 (Nat.le_refl _))
  have HW1 := Lib.hid (HBW.out.trans (hb1.mono (by rw [HSZ.out]; omega)))
  obtain ⟨b0, b1, b2, b3⟩ := TB1.out.two
  clear hb1
  go_wp2_with fail
  with_reducible refine (cb _).mono ?_
  rintro e w2 ⟨rfl, hb2⟩
  have TR2 := Lib.hid (TR1.out.keep hb2 (Nat.le_refl _))
  have TB2 := Lib.hid (TB1.out.keep hb2 (Nat.le_refl _))
  have HW2 := Lib.hid (bstep HW1.out hb2 (Nat.le_refl _))
  obtain ⟨f0, f1, f2, f3⟩ := (TA1.out.keep hb2 (Nat.le_refl _)).two
  obtain ⟨g0, g1, g2, g3⟩ := TB2.out.two
  clear hb2 b0 b1 b2 b3 cb TA TB TR TA1 TB1 TR1 HW1 f2 f3 g2 g3
  obtain ⟨r0, r1, r2, r3⟩ := TR2.out.two
  go_wp2_with fail
  exact bodyPost_ret (v := zeroV) (by simp [results, Tryz.results65, go_sem, zeroV, errV, r0, r1]) rfl ⟨rfl, (HW2.out.setCell (by simp; omega) _).setCell (by simp; omega) _⟩

set_option maxRecDepth 100000 in
set_option maxHeartbeats 2000000 in
theorem div_ok (na da nb db : Int) (ha : RightP na da) (hb : RightP nb db) (hn0 : nb ≠ 0) (w : World) :
    Calls Tryz.prog 65 #[.agg #[.int .i64 na, .int .i64 da], .agg #[.int .i64 nb, .int .i64 db]] w fun e w' =>
      e = .returned (ratV (fracI (if nb < 0 then -(na * db) else na * db) (da.natAbs * nb.natAbs))) ∧ Below w.heap.size w w' := by
  have HRA := Lib.hid ha
  have HRB := Lib.hid hb
  obtain ⟨a1, a2, a3, a4, a5⟩ := ha
  obtain ⟨b1, b2, b3, b4, b5⟩ := hb
  have ra : rightB na da = true := (rightB_iff na da ⟨by omega, by omega⟩ ⟨by omega, by omega⟩).2 HRA.out
  have rb : rightB nb db = true := (rightB_iff nb db ⟨by omega, by omega⟩ ⟨by omega, by omega⟩).2 HRB.out
  have ca := right_any na da ⟨by omega, by omega⟩ ⟨by omega, by omega⟩
  have cb := right_any nb db ⟨by omega, by omega⟩ ⟨by omega, by omega⟩
  rw [ra] at ca
  rw [rb] at cb
  have csa := size_any na ⟨by omega, by omega⟩
  have csb := size_any nb ⟨by omega, by omega⟩
  obtain ⟨D, rfl⟩ := Int.eq_ofNat_of_zero_le (show 0 ≤ da by omega)
  obtain ⟨E, rfl⟩ := Int.eq_ofNat_of_zero_le (show 0 ≤ db by omega)
  simp only [Int.natAbs_natCast] at *
  obtain ⟨F, hF⟩ : ∃ F, F = fracI (if nb < 0 then -(na * (E : Int)) else na * (E : Int)) (D * nb.natAbs) := ⟨_, rfl⟩
  rw [← hF]
  obtain ⟨sg, hsg⟩ : ∃ sg, sg = (decide (na < 0) != decide (nb < 0)) := ⟨_, rfl⟩
  have hs1 : (!(decide (na < 0) == decide (nb < 0))) = sg := hsg.symm
  have cP := product_any sg na.natAbs D E nb.natAbs a5 (by rw [Nat.gcd_comm]; exact b5) (by omega) (by omega) (by omega) (by omega) (by omega) (by omega)
  rw [hsg, sgn_div2, ← hF, ← hsg] at cP
  clear hF hsg
  have nz1 : (nb == 0) = false := by rw [beq_eq_false_iff_ne]; exact hn0
  clear a5 b5 ra rb HRA HRB hn0
  generalize na.natAbs = A at *
  generalize nb.natAbs = B at *
  have hbx := box3 w #[.int .i64 na, .int .i64 D] #[.int .i64 nb, .int .i64 E] #[.int .i64 0, .int .i64 0] 40 40 40
  obtain ⟨ta, tb, tr, hsz, hbw⟩ := hbx
  have TA := Lib.hid ta
  have TB := Lib.hid tb
  have TR := Lib.hid tr
  have HSZ := Lib.hid hsz
  have HBW := Lib.hid hbw
  clear ta tb tr hsz hbw
  go_enter Tryz.func65, Tryz.ntmps65
  go_wp2_with fail
  with_reducible refine (ca _).mono ?_
  rintro e w1 ⟨rfl, hb1⟩
  clear ca
  have TA1 := Lib.hid (TA.out.keep hb1 (Nat.le_refl _))
  have TB1 := Lib.hid (TB.out.keep hb1 (Nat.le_refl _))
  have TR1 := Lib.hid (TR.out.keep hb1 (Nat.le_refl _))
  have HW1 := Lib.hid (HBW.out.trans (hb1.mono (by rw [HSZ.out]; omega)))
  obtain ⟨b0, b1, b2, b3⟩ := TB1.out.two
  clear hb1
  go_wp2_with fail
  with_reducible refine (cb _).mono ?_
  rintro e w2 ⟨rfl, hb2⟩
  have TR2 := Lib.hid (TR1.out.keep hb2 (Nat.le_refl _))
  have TB2 := Lib.hid (TB1.out.keep hb2 (Nat.le_refl _))
  have HW2 := Lib.hid (bstep HW1.out hb2 (Nat.le_refl _))
  obtain ⟨f0, f1, f2, f3⟩ := (TA1.out.keep hb2 (Nat.le_refl _)).two
  obtain ⟨g0, g1, g2, g3⟩ := TB2.out.two
  clear hb2 b0 b1 b2 b3 cb TA TB TR TA1 TB1 TR1 HW1 f2 f3 g2 g3
  obtain ⟨n, d, er, hfv⟩ := ratV_shape F
  have HFV := Lib.hid hfv
  rw [hfv] at cP
  clear hfv
  go_wp2_with fail
  have l0 := fun x : Later w2 => Later.cell f0 x
  have l1 := fun x : Later w2 => Later.cell f1 x
  have l2 := fun x : Later w2 => Later.cell g0 x
  have l3 := fun x : Later w2 => Later.cell g1 x
  refine wp_region_later 22 (by kernel_rfl) (by kernel_rfl) ?_
  simp only [List.take_succ_cons, List.take_zero, List.drop_succ_cons, List.drop_zero]
  repeat (go_big_quiet_step ((first | (go_at_call 100; with_reducible exact Later.same (csa _)) | (go_at_call 100; with_reducible exact Later.same (csb _)) | (go_at_call 99; with_reducible exact Later.made (cP _)))))
  refine wpQuiet_nil ?_
  rintro _ ⟨x, rfl⟩
  clear l0 l1 l2 l3 f0 f1 g0 g1
  obtain ⟨r0, r1, r2, r3⟩ := (Later.blk TR2.out x).two
  have HB3 := Lib.hid (bstep HW2.out x.below (Nat.le_refl _))
  generalize x.w = w3 at *
  go_wp2_with fail
  exact bodyPost_ret (v := .tuple #[.agg #[.int .i64 n, .int .i64 d], er]) (by simp [results, Tryz.results65, go_sem, r0, r1]) rfl ⟨by rw [HFV.out], (HB3.out.setCell (by simp; omega) _).setCell (by simp; omega) _⟩

theorem div_any (na da nb db : Int) (h1 : In64 na) (h2 : In64 da) (h3 : In64 nb) (h4 : In64 db) (w : World) :
    Calls Tryz.prog 65 #[.agg #[.int .i64 na, .int .i64 da], .agg #[.int .i64 nb, .int .i64 db]] w fun e w' => e = .returned (divV na da nb db) ∧ Below w.heap.size w w' := by
  unfold divV
  cases ha : rightB na da
  · exact div_bad na da nb db h1 h2 h3 h4 (.inl ha) w
  · cases hb : rightB nb db
    · exact div_bad na da nb db h1 h2 h3 h4 (.inr hb) w
    · have ra := (rightB_iff na da h1 h2).1 ha
      have rb := (rightB_iff nb db h3 h4).1 hb
      by_cases h0 : nb = 0
      · have := div_zero na da nb db ra rb h0 w
        simpa [h0] using this
      · have := div_ok na da nb db ra rb h0 w
        simpa [h0] using this

end Go.Proofs.YtmifjfohanegiaaGreatDoor

namespace Go.Proofs.YtmifjfohanegiaaGreatDoor
set_option linter.unusedVariables false
open Go.RowKit

/-- the greatest common divisor, or one that is too great by far -/
def ComOK (m n p : Nat) : Prop := p = Nat.gcd m n ∨ (0 < p ∧ Nat.gcd m n ∣ p ∧ p * 18446744073709551616 ≤ n)
structure ComS (m n i p q : Nat) : Prop where
  gcd : Nat.gcd p q = Nat.gcd m n
  size : 1 ≤ i → q < p ∧ p * 2 ^ ((i - 1) / 2) ≤ n ∧ q * 2 ^ (i / 2) ≤ n
  first : i = 0 → p = m ∧ q = n
theorem comS_step {m n i p q : Nat} (h : ComS m n i p q) (hq : 0 < q) : ComS m n (i + 1) q (p % q) := by
  have hlt := Nat.mod_lt p hq
  refine ⟨?_, fun _ => ⟨hlt, ?_, ?_⟩, fun h0 => by omega⟩
  · rw [← h.gcd, Nat.gcd_comm p q, Nat.gcd_rec q p, Nat.gcd_comm]
  · rw [Nat.add_sub_cancel]
    rcases Nat.eq_zero_or_pos i with h0 | h0
    · subst h0
      obtain ⟨rfl, rfl⟩ := h.first rfl
      simp
    · exact (h.size h0).2.2
  · rcases Nat.eq_zero_or_pos i with h0 | h0
    · subst h0
      obtain ⟨rfl, rfl⟩ := h.first rfl
      simp
      omega
    · obtain ⟨h1, h2, h3⟩ := h.size h0
      have e : (i + 1) / 2 = (i - 1) / 2 + 1 := by omega
      have h4 : p % q * 2 ≤ p := by
        have h5 := Nat.div_add_mod p q
        have h6 : 1 ≤ p / q := (Nat.le_div_iff_mul_le hq).2 (by omega)
        have h7 := Nat.mul_le_mul_left q h6
        omega
      rw [e, Nat.pow_succ, Nat.mul_comm (2 ^ _) 2, ← Nat.mul_assoc]
      exact Nat.le_trans (Nat.mul_le_mul_right _ h4) h2
theorem comS_end {m n i p : Nat} (h : ComS m n i p 0) : ComOK m n p := .inl (by rw [← h.gcd, Nat.gcd_zero_right])
theorem comS_early {m n i p q : Nat} (h : ComS m n i p q) (hq : 0 < q) (hi : 64 * ((digs p).length + (digs q).length) + 2 ≤ i) : ComOK m n p := by
  have hql : 1 ≤ (digs q).length := by
    rcases Nat.eq_zero_or_pos (digs q).length with h0 | h0
    · have := (digs_len q 0).1 (by omega); simp at this; omega
    · exact h0
  obtain ⟨h1, h2, h3⟩ := h.size (by omega)
  have hpl : 1 ≤ (digs p).length := by
    rcases Nat.eq_zero_or_pos (digs p).length with h0 | h0
    · have := (digs_len p 0).1 (by omega); simp at this; omega
    · exact h0
  refine .inr ⟨by omega, by rw [← h.gcd]; exact Nat.gcd_dvd_left p q, ?_⟩
  have h4 : (2 : Nat) ^ 64 ≤ 2 ^ ((i - 1) / 2) := Nat.pow_le_pow_right (by decide) (by omega)
  have e : (2 : Nat) ^ 64 = 18446744073709551616 := by decide +kernel
  rw [e] at h4
  exact Nat.le_trans (Nat.mul_le_mul_left p h4) h2

def ComAt (m n g : Nat) (w wr : World) (x y i : Value) : Prop := ∃ p q k : Nat, g = q ∧ NatV wr x p ∧ NatV wr y q ∧ i = .int .i64 (k : Nat) ∧ ComS m n k p q ∧ (digs p).length ≤ 100000 ∧ (digs q).length ≤ 100000 ∧ k ≤ 64 * 200000 + 2 ∧ Below w.heap.size w wr
def RetCom (w : World) (m n : Nat) (e : Ending) (w' : World) : Prop := ∃ v p, e = .returned v ∧ NatV w' v p ∧ ComOK m n p ∧ (digs p).length ≤ 100000 ∧ Below w.heap.size w w'

end Go.Proofs.YtmifjfohanegiaaGreatDoor

namespace Go.Proofs.YtmifjfohanegiaaGreatDoor
set_option linter.unusedVariables false
open Go.RowKit

/-- the reference's answer: a fraction and an error's number -/
def refV (r : Option (Int × Int)) : Value :=
  match r with
  | some (n, d) => .tuple #[.agg #[.int .i64 n, .int .i64 d], .int .i64 0]
  | none => .tuple #[.agg #[.int .i64 0, .int .i64 0], .int .i64 9]

theorem frac_zero (neg : Bool) (D : Nat) : frac neg 0 D = some (0, 1) := by
  unfold frac; rw [Nat.zero_div]; exact fitE_zero _ _
theorem lowest_val (neg : Bool) (N D p : Nat) (h : ComOK N D p) (hN : N ≠ 0) (hD : 0 < D) :
    frac neg N D = (if 9223372036854775807 < D / p ∨ 9223372036854775808 < N / p ∨ (N / p = 9223372036854775808 ∧ neg = false) then none else some (sgn neg (N / p), ((D / p : Nat) : Int))) ∧ 0 < p := by
  have hg : 0 < Nat.gcd N D := Nat.gcd_pos_of_pos_right N hD
  rcases h with rfl | ⟨hp, hdv, hle⟩
  · refine ⟨?_, hg⟩
    have h0 : N / Nat.gcd N D ≠ 0 := by
      have h1 := Nat.div_mul_cancel (Nat.gcd_dvd_left N D)
      intro h2
      rw [h2] at h1
      simp at h1
      omega
    unfold frac fitE
    rw [if_neg h0]
  · have h1 : 18446744073709551616 ≤ D / p := by rw [Nat.le_div_iff_mul_le hp, Nat.mul_comm]; exact hle
    have h2 : D / p ≤ D / Nat.gcd N D := Nat.div_le_div_left (Nat.le_of_dvd hp hdv) hg
    refine ⟨?_, hp⟩
    rw [if_pos (.inl (by omega))]
    have h0 : N / Nat.gcd N D ≠ 0 := by
      have h1 := Nat.div_mul_cancel (Nat.gcd_dvd_left N D)
      intro h2
      rw [h2] at h1
      simp at h1
      omega
    unfold frac fitE
    rw [if_neg h0, if_pos (.inl (by omega))]
theorem neg_back (k : Nat) (h : k ≤ 9223372036854775808) : wrap64 (-(wrap64 (k : Int))) = -(k : Int) := by
  unfold wrap64; omega

end Go.Proofs.YtmifjfohanegiaaGreatDoor

namespace Go.Proofs.YtmifjfohanegiaaGreatDoor
set_option linter.unusedVariables false
open Go.RowKit

theorem digs64 {n : Nat} (h : n < 18446744073709551616) : (digs n).length ≤ 2 := (digs_len n 2).2 (by simpa using h)
theorem com64 {m n p : Nat} (h : ComOK m n p) (hn : n < 18446744073709551616) : p = Nat.gcd m n := by
  rcases h with h | ⟨h1, _, h2⟩
  · exact h
  · omega

end Go.Proofs.YtmifjfohanegiaaGreatDoor

namespace Go.Proofs.YtmifjfohanegiaaGreatDoor
set_option linter.unusedVariables false
open Go.RowKit

/-- a fraction of the reference: its sign, its two numbers -/
def FracV (w : World) (v : Value) (neg : Bool) (N D : Nat) : Prop := ∃ x y, v = .agg #[.bool neg, x, y] ∧ NatV w x N ∧ NatV w y D
theorem FracV.keep {w w' : World} {v : Value} {neg : Bool} {N D : Nat} (h : FracV w v neg N D) (hb : Below w.heap.size w w') : FracV w' v neg N D := by
  obtain ⟨x, y, e, h1, h2⟩ := h
  exact ⟨x, y, e, h1.keep hb, h2.keep hb⟩
def RetFrac (w : World) (neg : Bool) (N D : Nat) (e : Ending) (w' : World) : Prop := ∃ v, e = .returned v ∧ FracV w' v neg N D ∧ Below w.heap.size w w'
theorem natV_low {w : World} {v : Value} {n : Nat} (h : NatV w v n) {g q : Nat} {u : Value} (hg : ∀ ad k c, v = .slice (some ad) k c → ad.block ≠ g) : NatV (w.setCell ⟨g, q, none⟩ u) v n :=
  natV_set (len := 0) (cap := 0) h fun ad k c e1 bd k' c' e2 => by
    cases e2
    exact hg ad k c e1
theorem natV_set3 {w : World} {v : Value} {n : Nat} (h : NatV w v n) {g : Nat} {cs : Array Value} (hg : Blk w g cs) (hT : FreshV (g + 1) v ∨ BelowV g v) (a b c : Value) :
    NatV (((w.setCell ⟨g, 0, none⟩ a).setCell ⟨g, 1, none⟩ b).setCell ⟨g, 2, none⟩ c) v n := by
  have hne : ∀ ad k c, v = .slice (some ad) k c → ad.block ≠ g := fun ad k c e => by
    rcases hT with h1 | h1
    · have := h1 ad k c e; omega
    · have := h1 ad k c e; omega
  exact natV_low (natV_low (natV_low h hne) hne) hne
theorem FreshV.low {B B' : Nat} {v : Value} (h : FreshV B v) (hb : B' ≤ B) : FreshV B' v := fun a n c e => Nat.le_trans hb (h a n c e)
theorem Blk.set {w : World} {k : Nat} {cs : Array Value} (h : Blk w k cs) (j : Nat) (v : Value) : Blk (w.setCell ⟨k, j, none⟩ v) k (cs.setIfInBounds j v) := by
  obtain ⟨T, h⟩ := h
  refine ⟨T, ?_⟩
  simp [World.setCell, Array.getElem?_modify, h]
theorem Blk.set3 {w : World} {k : Nat} {x y z : Value} (h : Blk w k #[x, y, z]) (a b c : Value) : Blk (((w.setCell ⟨k, 0, none⟩ a).setCell ⟨k, 1, none⟩ b).setCell ⟨k, 2, none⟩ c) k #[a, b, c] := ((h.set 0 a).set 1 b).set 2 c
theorem Blk.other3 {w : World} {k g : Nat} {cs : Array Value} (h : Blk w k cs) (hg : g ≠ k) (a b c : Value) : Blk (((w.setCell ⟨g, 0, none⟩ a).setCell ⟨g, 1, none⟩ b).setCell ⟨g, 2, none⟩ c) k cs := ((h.other hg a).other hg b).other hg c
theorem below_set3 {B g : Nat} {w w' : World} (h : Below B w w') (hg : B ≤ g) (a b c : Value) : Below B w (((w'.setCell ⟨g, 0, none⟩ a).setCell ⟨g, 1, none⟩ b).setCell ⟨g, 2, none⟩ c) := ((h.setCell hg a).setCell hg b).setCell hg c



end Go.Proofs.YtmifjfohanegiaaGreatDoor

namespace Go.Proofs.YtmifjfohanegiaaGreatDoor
set_option linter.unusedVariables false
open Go.RowKit

set_option maxRecDepth 100000 in
theorem is_nilE (n : Int) (w : World) :
    Calls Tryz.prog 66 #[.nilIface, .iface 46 (.int .i64 n)] w fun e w' => e = .returned (.bool false) ∧ w' = w := by
  have he : ∀ w : World, (binOp .eql 25 .nilIface (.iface 46 (.int .i64 n))).run Tryz.prog w = .ok (.bool false) w := fun w => by kernel_rfl
  go_enter Tryz.func66, Tryz.ntmps66
  go_wp2_with fail
  go_ret
  exact ⟨rfl, rfl⟩
theorem div_step {neg : Bool} {v j : Nat} {x y : Int} (h : frac neg v (10 ^ j) = some (x, y)) (w : World) :
    Calls Tryz.prog 65 #[.agg #[.int .i64 x, .int .i64 y], .agg #[.int .i64 10, .int .i64 1]] w fun e w' => e = .returned (ratV (frac neg v (10 ^ (j + 1)))) ∧ Below w.heap.size w w' := by
  have hr := frac_right (p10 j) h
  obtain ⟨r1, r2, r3, r4, r5⟩ := hr
  have hx : In64 x := ⟨r3, r4⟩
  have hy : In64 y := ⟨by omega, r2⟩
  have ha : rightB x y = true := (rightB_iff x y hx hy).2 ⟨r1, r2, r3, r4, r5⟩
  have hb : rightB 10 1 = true := by decide
  have hd := div_any x y 10 1 hx hy (by unfold In64; omega) (by unfold In64; omega) w
  have hs := frac_step (p10 j) h
  rw [Nat.pow_succ, ← hs]
  unfold divV at hd
  rw [ha, hb] at hd
  simpa using hd
theorem frac_zero10 {neg : Bool} {v : Nat} (h : v ≤ 1000000000000000000) : frac neg v (10 ^ 0) = some (sgn neg v, 1) := by
  rw [Nat.pow_zero, frac_one]
  unfold fitE
  by_cases h0 : v = 0
  · subst h0; rw [if_pos rfl]; cases neg <;> rfl
  · rw [if_neg h0, if_neg (by omega)]; rfl
theorem dec_le18 {v : Nat} (h : (Lib.decDigits v).length ≤ 18) : v < 1000000000000000000 := by
  obtain ⟨k, h1, h2, h3⟩ := dec_len v
  rw [h1, padD_len] at h
  exact Nat.lt_of_lt_of_le h2 (Nat.pow_le_pow_right (by decide) h)

set_option maxRecDepth 100000 in
set_option maxHeartbeats 4000000 in
theorem small_any (neg : Bool) (v back : Nat) (hv : 0 < v) (hz : v % 10 ≠ 0) (hlen : (Lib.decDigits v).length ≤ 200) (hback : back ≤ 100000) (w : World) :
    Calls Tryz.prog 31 #[.bool neg, .string ⟨(Lib.decDigits v).toArray⟩, .int .i64 back] w fun e w' => e = .returned (ratV (frac neg v (10 ^ back))) ∧ Below w.heap.size w w' := by
  obtain ⟨F, hF⟩ : ∃ F, F = frac neg v (10 ^ back) := ⟨_, rfl⟩
  rw [← hF]
  have HF := Lib.hid hF
  clear hF
  obtain ⟨tr, hsz, hbw⟩ := box1 w #[.int .i64 0, .int .i64 0] 40
  have TR := Lib.hid tr
  have HBW := Lib.hid hbw
  clear tr hbw
  have hvn : Lib.decDigits v ≠ [] := by intro h; have h3 := dec_valL v; rw [h] at h3; simp [valL, valS] at h3; omega
  have hdv := dec_valL v
  have hdd := dec_digL v
  by_cases hb62 : (62 : Int) < back
  · have HN := Lib.hid (show F = none by rw [HF.out]; exact frac_over_den hz (by omega))
    clear hdv hvn hdd
    go_enter Tryz.func31, Tryz.ntmps31
    go_wp2_with fail
    generalize w.alloc (.cells #[.int .i64 0, .int .i64 0] 40) = W at *
    obtain ⟨r0, r1, r2, r3⟩ := TR.out.two
    exact bodyPost_ret (v := .tuple #[.agg #[.int .i64 0, .int .i64 0], errV 9]) (by simp [results, Tryz.results31, go_sem, r0, r1, errV]) rfl ⟨by rw [HN.out]; rfl, HBW.out⟩
  by_cases h18 : (18 : Int) < (Lib.decDigits v).length
  · have cl := long_any neg v back hv (by omega) hlen
    rw [← HF.out] at cl
    clear hdv hvn hdd HF
    generalize Lib.decDigits v = L at *
    go_enter Tryz.func31, Tryz.ntmps31
    go_wp2_with fail
    generalize w.alloc (.cells #[.int .i64 0, .int .i64 0] 40) = W at *
    go_wp2_with fail
    with_reducible refine (cl _).mono ?_
    rintro e w2 ⟨rfl, hb2⟩
    clear cl
    have TR2 := Lib.hid (TR.out.keep hb2 (Nat.le_refl _))
    have HB2 := Lib.hid (show Below w.heap.size w w2 from bstep HBW.out hb2 (by omega))
    clear hb2
    obtain ⟨r0, r1, r2, r3⟩ := TR2.out.two
    rcases F with _ | ⟨x, y⟩
    · simp only [ratV, errV]
      go_wp2_with fail
      exact bodyPost_ret (v := .tuple #[.agg #[.int .i64 0, .int .i64 0], errV 9]) (by simp [results, Tryz.results31, go_sem, r0, r1, errV]) rfl ⟨rfl, (HB2.out.setCell (by simp) _).setCell (by simp) _⟩
    · simp only [ratV]
      go_wp2_with fail
      exact bodyPost_ret (v := .tuple #[.agg #[.int .i64 x, .int .i64 y], .nilIface]) (by simp [results, Tryz.results31, go_sem, r0, r1]) rfl ⟨rfl, (HB2.out.setCell (by simp) _).setCell (by simp) _⟩
  have hvlt : v < 1000000000000000000 := dec_le18 (by omega)
  have cp := Tryz.strconv_ParseInt_10_at64_ok ⟨(Lib.decDigits v).toArray⟩ (by show (Lib.decDigits v).length ≤ _; omega) (v : Int) (by
    show Lib.parseIntB 64 (Lib.decDigits v) = _
    have := pi_ok hdd hvn (by rw [hdv]; omega)
    rwa [hdv] at this)
  clear hdv hvn hdd
  generalize Lib.decDigits v = L at *
  go_enter Tryz.func31, Tryz.ntmps31
  go_wp2_with fail
  generalize w.alloc (.cells #[.int .i64 0, .int .i64 0] 40) = W at *
  go_wp2_with fail
  with_reducible refine (cp _).mono ?_
  rintro e w1 ⟨rfl, hb1⟩
  clear cp
  replace hb1 : Below W.heap.size W w1 := by
    rcases hb1 with rfl | ⟨t, rfl⟩
    · exact Below.refl _ _
    · exact Joins.below_bytesWorld _ _ _ _ (Nat.le_refl _)
  have TR1 := Lib.hid (TR.out.keep hb1 (Nat.le_refl _))
  have HB1 := Lib.hid (show Below w.heap.size w w1 from bstep HBW.out hb1 (by omega))
  have hs1 := Lib.hid (show w.heap.size + 1 ≤ w1.heap.size by have := hb1.size; omega)
  clear hb1 TR HBW hsz
  have HSG := Lib.hid (frac_zero10 (neg := neg) (v := v) (by omega))
  obtain ⟨x0, hx0⟩ : ∃ x0, x0 = sgn neg v := ⟨_, rfl⟩
  rw [← hx0] at HSG
  obtain ⟨ta, hsz, hbw⟩ := box1 w1 #[.int .i64 x0, .int .i64 1] 40
  have TA := Lib.hid ta
  have TR2 := Lib.hid (TR1.out.keep hbw (Nat.le_refl _))
  have HB2 := Lib.hid (show Below w.heap.size w (w1.alloc (.cells #[.int .i64 x0, .int .i64 1] 40)) from bstep HB1.out hbw (by have := hs1.out; omega))
  clear ta hbw TR1 HB1
  go_upto_if 31 with (fail)
  go_cut [8] (fun x ws => x = .int .i64 x0 ∧ ws = w1)
  case first =>
    cases neg
    · go_wp2_with fail
      go_meet
      case rel => exact ⟨by rw [hx0]; rfl, rfl⟩
    · go_wp2_with fail
      go_meet
      case rel => exact ⟨by rw [hx0]; rfl, rfl⟩
  case rest =>
    obtain ⟨rfl, rfl⟩ := hcut
    clear hx0
    go_upto_region 9 with fail
    generalize hA : wc.heap.size = A at *
    generalize wc.alloc (.cells #[.int .i64 x0, .int .i64 1] 40) = W2 at *
    clear hA
    go_loopw [2] (fun x ws => ∃ j k : Nat, ∃ x' y' : Int, x = .int .i64 (k : Nat) ∧ k + j = back ∧ frac neg v (10 ^ j) = some (x', y') ∧ Blk ws w.heap.size #[.int .i64 0, .int .i64 0] ∧ Blk ws A #[.int .i64 x', .int .i64 y'] ∧ Below w.heap.size w ws) (fun x _ => (intOf x).toNat)
    case atStart => exact ⟨0, back, x0, 1, rfl, by omega, HSG.out, TR2.out, TA.out, HB2.out⟩
    case round =>
      obtain ⟨j, k, x, y, rfl, hkj, hfr, tr, ta, hbw⟩ := hrel
      obtain ⟨a0, a1, a2, a3⟩ := ta.two
      clear HSG TR2 TA HB2
      by_cases hk : (0 : Int) < k
      · have cd := fun w => div_step hfr w
        have TR := Lib.hid tr
        have TA := Lib.hid ta
        have HB := Lib.hid hbw
        have hKJ := Lib.hid hkj
        clear tr ta hbw hkj
        have HNEXT := Lib.hid (fun (hn : frac neg v (10 ^ (j + 1)) = none) => show F = none by
          rw [HF.out]; exact frac_mono_le (by omega) (by omega) hn back (by have := hKJ.out; omega))
        obtain ⟨G, hG⟩ : ∃ G, G = frac neg v (10 ^ (j + 1)) := ⟨_, rfl⟩
        rw [← hG] at HNEXT cd
        have HG := Lib.hid hG
        clear hG hfr
        go_wp2_with fail
        with_reducible refine (cd _).mono ?_
        rintro e w3 ⟨rfl, hb3⟩
        clear cd a0 a1 a2 a3
        have TR3 := Lib.hid (TR.out.keep hb3 (Nat.le_refl _))
        have TA3 := Lib.hid (TA.out.keep hb3 (Nat.le_refl _))
        have HB3 := Lib.hid (show Below w.heap.size w w3 from bstep HB.out hb3 (by have := HB.out.size; omega))
        clear hb3 TR TA HB
        rcases G with _ | ⟨x2, y2⟩
        · have HN := Lib.hid (HNEXT.out rfl)
          obtain ⟨tb, hsz, hbb⟩ := box1 w3 #[.int .i64 0, .int .i64 0] 40
          have TR4 := Lib.hid (TR3.out.keep hbb (Nat.le_refl _))
          have HB4 := Lib.hid (show Below w.heap.size w (w3.alloc (.cells #[.int .i64 0, .int .i64 0] 40)) from bstep HB3.out hbb (by have := HB3.out.size; omega))
          clear tb hsz hbb
          obtain ⟨r0, r1, r2, r3⟩ := TR4.out.two
          have ci := is_errno 9 9
          rw [show ((9 : Int) == 9) = true from rfl] at ci
          simp only [ratV, errV]
          go_wp2_with fail
          generalize w3.alloc (.cells #[.int .i64 0, .int .i64 0] 40) = W4 at *
          with_reducible refine (ci _).mono ?_
          rintro e w5 ⟨rfl, rfl⟩
          clear ci
          go_wp2_with fail
          exact bodyPost_ret (v := .tuple #[.agg #[.int .i64 0, .int .i64 0], errV 9]) (by simp [results, Tryz.results31, go_sem, r0, r1, errV]) rfl ⟨by rw [HN.out]; rfl, (HB4.out.setCell (by simp) _).setCell (by simp) _⟩
        · obtain ⟨tb, hsz, hbb⟩ := box1 w3 #[.int .i64 x2, .int .i64 y2] 40
          have TR4 := Lib.hid (TR3.out.keep hbb (Nat.le_refl _))
          have TA4 := Lib.hid (TA3.out.keep hbb (Nat.le_refl _))
          have TB4 := Lib.hid tb
          have HB4 := Lib.hid (show Below w.heap.size w (w3.alloc (.cells #[.int .i64 x2, .int .i64 y2] 40)) from bstep HB3.out hbb (by have := HB3.out.size; omega))
          clear tb hsz hbb
          obtain ⟨a0, a1, a2, a3⟩ := TA4.out.two
          obtain ⟨b0, b1, b2, b3⟩ := TB4.out.two
          have ci := is_nilE 9
          obtain ⟨k2, rfl⟩ : ∃ k2, k = k2 + 1 := ⟨k - 1, by omega⟩
          have hk62 : (k2 : Int) ≤ 62 := by have := hKJ.out; omega
          have ht : ((k2 + 1 : Nat) : Int) - 1 = (k2 : Int) := by omega
          simp only [ratV]
          go_wp2_with fail
          generalize w3.alloc (.cells #[.int .i64 x2, .int .i64 y2] 40) = W4 at *
          with_reducible refine (ci _).mono ?_
          rintro e w5 ⟨rfl, rfl⟩
          clear ci
          go_wp2_with fail
          go_roundw
          case rel => exact ⟨j + 1, k2, x2, y2, by first | rfl | go_num, by have := hKJ.out; omega, HG.out.symm, (TR4.out.other (by have := hs1.out; show A ≠ w.heap.size; omega) _).other (by have := hs1.out; show A ≠ w.heap.size; omega) _, (TA4.out.set 0 _).set 1 _, (HB4.out.setCell (by have := hs1.out; show w.heap.size ≤ A; omega) _).setCell (by have := hs1.out; show w.heap.size ≤ A; omega) _⟩
          case measure => (simp [intOf] <;> omega)
      · obtain rfl : k = 0 := by omega
        obtain rfl : j = back := by omega
        have HN := Lib.hid (show F = some (x, y) by rw [HF.out, hfr])
        obtain ⟨r0, r1, r2, r3⟩ := tr.two
        have HB := Lib.hid hbw
        clear tr ta hbw hfr HF
        go_wp2_with fail
        exact bodyPost_ret (v := .tuple #[.agg #[.int .i64 x, .int .i64 y], .nilIface]) (by simp [results, Tryz.results31, go_sem, r0, r1]) rfl ⟨by rw [HN.out]; rfl, (HB.out.setCell (by simp) _).setCell (by simp) _⟩
end Go.Proofs.YtmifjfohanegiaaGreatDoor
