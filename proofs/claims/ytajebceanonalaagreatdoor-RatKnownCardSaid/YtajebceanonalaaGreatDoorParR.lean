/-
  The plain law of reading a number's text: the program's reader in steps, the reference's cut, and that they agree.
-/
import Derived.Test.YtajebceanonalaaGreatDoorTxtA
import Derived.Laws.IdiomStrings
import Derived.Test.YtajebceanonalaaGreatDoorShelf
import Derived.Test.YtajebceanonalaaGreatDoorParM
import Derived.Lib.SmallJoins
import Derived.Test.YtajebceanonalaaGreatDoorRatD
import Derived.Test.YtajebceanonalaaGreatDoorBaseD
import Derived.Test.YtajebceanonalaaGreatDoorByteK
import Derived.Test.YtajebceanonalaaGreatDoorBaseC
import Derived.Deep.RegionHeld3
import Derived.Test.YtajebceanonalaaGreatDoorRatK
import Derived.Test.YtajebceanonalaaGreatDoorIsErr

namespace Go.Proofs.YtajebceanonalaaGreatDoor
set_option linter.unusedVariables false
open Go.RowKit

theorem conv_one (w : World) (c : UInt8) : (convert 91 9 (.slice (some ⟨w.heap.size, 0, none⟩) 1 1)).run Tryz.prog (w.alloc (.cells #[.int .u8 c.toNat] 5)) = .ok (.string ⟨#[c]⟩) (w.alloc (.cells #[.int .u8 c.toNat] 5)) := by
  have hs := SlOf.lit w enByte 1 (fun _ => rfl) [c] #[.int .u8 c.toNat] 5 1 rfl rfl (by decide)
  exact run_convert_bytes_back _ 91 9 5 ⟨w.heap.size, 0, none⟩ 1 [c] Tryz.underlying91 Tryz.underlying5 Tryz.underlying9 fun j hj => by
    obtain ⟨b, o, e1, _, hc⟩ := SlOf.cell1 hs (fun x : UInt8 => .int .u8 (x.toNat : Int)) (fun _ => rfl) hj
    cases e1
    rw [Addr.add_lit]
    exact hc
theorem str_cons (c : UInt8) (l : List UInt8) : (⟨#[c]⟩ : ByteArray) ++ ⟨l.toArray⟩ = ⟨(c :: l).toArray⟩ := strA [c] l
theorem digs_dec {n i : Nat} (h : n / 10 ^ i ≠ 0) : i ≤ 10 * (digs n).length := by
  have h1 : n < 4294967296 ^ (digs n).length := (digs_len n _).1 (Nat.le_refl _)
  have h2 : 4294967296 ^ (digs n).length ≤ 10 ^ (10 * (digs n).length) := by
    rw [Nat.pow_mul]
    exact Nat.pow_le_pow_left (by decide) _
  have h3 : 10 ^ i ≤ n := by
    rcases Nat.lt_or_ge n (10 ^ i) with h4 | h4
    · rw [Nat.div_eq_of_lt h4] at h; exact absurd rfl h
    · exact h4
  have h5 := (Nat.pow_lt_pow_iff_right (by decide : 1 < 10)).1 (Nat.lt_of_le_of_lt h3 (Nat.lt_of_lt_of_le h1 h2))
  omega

set_option maxRecDepth 100000 in
set_option maxHeartbeats 4000000 in
theorem decimal_any (n : Nat) (a : Option Addr) (ca : Nat) (hn : (digs n).length ≤ 1000) (w : World) (hs : SlD w a ca (digs n)) :
    Calls Tryz.prog 127 #[.slice a (digs n).length ca] w fun e w' => e = .returned (.string ⟨(Lib.decDigits n).toArray⟩) ∧ Below w.heap.size w w' := by
  have cf10 : ∀ w, Calls Tryz.prog 26 #[.int .u64 10] w (RetNat w 10) := fun w => from_any 10 (by decide) w
  have HS := Lib.hid (show NatV w (.slice a (digs n).length ca) n from ⟨a, ca, rfl, hs⟩)
  clear hs
  generalize hM : (digs n).length = M at *
  have HM := Lib.hid hM
  clear hM
  go_enter Tryz.func127, Tryz.ntmps127
  go_wp2_with fail
  go_loopw [0, 3, 5] (fun va vs vi wr => ∃ i : Nat, vi = .int .i64 (i : Nat) ∧ vs = .string ⟨(padD i n).toArray⟩ ∧ NatV wr va (n / 10 ^ i) ∧ i ≤ 10 * M + 1 ∧ n / 10 ^ (i - 1) * i ≥ (if i = 1 then 0 else i) ∧ Below w.heap.size w wr) (fun _ _ vi _ => 10 * M + 1 - (intOf vi).toNat)
  case atStart => exact ⟨0, rfl, rfl, by simpa using HS.out, Nat.zero_le _, by simp, Below.refl _ _⟩
  case round =>
    obtain ⟨i, rfl, rfl, ⟨a1, c1, rfl, hs1⟩, hi, hprev, hb⟩ := hrel
    have HPREV := Lib.hid hprev
    clear hprev
    have hlN : (digs (n / 10 ^ i)).length ≤ 1000 := by
      have h1 : n < 4294967296 ^ (digs n).length := (digs_len n _).1 (Nat.le_refl _)
      exact Nat.le_trans ((digs_len _ (digs n).length).2 (Nat.lt_of_le_of_lt (Nat.div_le_self _ _) h1)) (by rw [HM.out]; exact hn)
    have HDD := Lib.hid (fun h => digs_dec (n := n) (i := i) h)
    have HPAD := Lib.hid (show padD (i + 1) n = dgt (n / 10 ^ i) :: padD i n from rfl)
    have HDIV := Lib.hid (show n / 10 ^ i / 10 = n / 10 ^ (i + 1) by rw [Nat.div_div_eq_div_mul, Nat.pow_succ])
    have hl0 : (digs (n / 10 ^ i)).length = 0 ↔ n / 10 ^ i = 0 := by rw [List.length_eq_zero_iff, digs_nil]
    generalize hN : n / 10 ^ i = N at *
    have HN := Lib.hid hN.symm
    clear hN
    by_cases hgo : N = 0 ∧ i ≠ 0
    · have hl : (digs N).length = 0 := hl0.2 hgo.1
      have hi0 : ((i : Int) == 0) = false := by rw [beq_eq_false_iff_ne]; omega
      have hE : padD i n = Lib.decDigits n := by
        obtain ⟨j, rfl⟩ : ∃ j, i = j + 1 := ⟨i - 1, by omega⟩
        refine (dec_pad j n ?_ ?_).symm
        · have h1 := HN.out
          rw [hgo.1] at h1
          rcases Nat.lt_or_ge n (10 ^ (j + 1)) with h2 | h2
          · exact h2
          · have := Nat.div_pos h2 (Nat.pow_pos (by decide)); omega
        · by_cases hj : j = 0
          · exact .inl hj
          · right
            have h1 := HPREV.out
            rw [if_neg (by omega)] at h1
            simp only [Nat.add_sub_cancel] at h1
            rcases Nat.lt_or_ge n (10 ^ j) with h2 | h2
            · rw [Nat.div_eq_of_lt h2] at h1; omega
            · exact h2
      have HE := Lib.hid hE
      rw [hl] at *
      clear hl hl0 hs1 hlN hgo hE
      by_cases hle : (i : Int) ≤ 10 * (M : Int)
      · go_wp2_with fail
        go_ret
        exact ⟨by rw [← HE.out]; rfl, hb⟩
      · go_wp2_with fail
        go_ret
        exact ⟨by rw [← HE.out]; rfl, hb⟩
    · have hile : (i : Int) ≤ 10 * (M : Int) := by
        rcases Nat.eq_zero_or_pos i with h0 | h0
        · subst h0; omega
        · have h1 : N ≠ 0 := fun h => hgo ⟨h, by omega⟩
          have h2 := HDD.out h1
          rw [HM.out] at h2
          omega
      have hd : N % 10 < 10 := Nat.mod_lt _ (by decide)
      have HNEXT := Lib.hid (show n / 10 ^ (i + 1 - 1) * (i + 1) ≥ (if i + 1 = 1 then 0 else i + 1) by
        rw [Nat.add_sub_cancel, ← HN.out]
        by_cases h0 : i = 0
        · subst h0; simp
        · rw [if_neg (by omega)]
          have h1 : N ≠ 0 := fun h => hgo ⟨h, h0⟩
          exact Nat.le_mul_of_pos_left _ (by omega))
      have HDG := Lib.hid (show IntKind.u8.wrap (48 + ((N % 10 : Nat) : Int)) = (((dgt N).toNat : Nat) : Int) by
        unfold dgt IntKind.wrap
        simp [IntKind.bits, IntKind.signed])
      have HQ := Lib.hid (show NatV wr (.slice a1 (digs N).length c1) N from ⟨a1, c1, rfl, hs1⟩)
      have hdm : N % 10 % 18446744073709551616 = N % 10 := Nat.mod_eq_of_lt (by omega)
      have cdv := fun w' a2 c2 (h : Below wr.heap.size wr w') (h2 : SlD w' a2 c2 (digs 10)) => divided_any N 10 (by decide) a1 a2 c1 c2 (by omega) (by have := digs1 (n := 10) (by decide); omega) w' (hs1.keep h (Nat.le_refl _)) h2
      have hpl : ¬ 9223372036854775807 < 1 + (padD i n).length := by rw [padD_len]; omega
      clear hlN hs1
      generalize (digs N).length = l1 at *
      by_cases hz : N = 0
      · clear hpl
        obtain rfl : i = 0 := by
          by_cases h : i = 0
          · exact h
          · exact absurd ⟨hz, h⟩ hgo
        obtain rfl : l1 = 0 := hl0.2 hz
        clear hl0 hgo hz
        go_wp2_with fail
        with_reducible refine (cf10 _).mono ?_
        rintro e w2 ⟨_, rfl, ⟨a2, c2, rfl, hs2⟩, _, hb2⟩
        have HB := Lib.hid (bstep hb hb2 (Nat.le_refl _))
        replace cdv := cdv w2 a2 c2 hb2 hs2
        clear hs2 hb hb2
        go_wp2_with fail
        with_reducible refine cdv.mono ?_
        rintro e w3 ⟨v3, u3, rfl, ⟨a3, c3, rfl, hs3⟩, ⟨a4, c4, rfl, hs4⟩, hb3⟩
        have cw := word_any (N % 10) a4 c4 w3 hs4
        rw [hdm] at cw
        replace HB := Lib.hid (bstep HB.out hb3 (Nat.le_refl _))
        have HN3 := Lib.hid (show NatV w3 (.slice a3 (digs (N / 10)).length c3) (n / 10 ^ (0 + 1)) by rw [← HDIV.out]; exact ⟨a3, c3, rfl, hs3⟩)
        clear cdv hs3 hs4 hb3
        generalize (digs (N / 10)).length = l3 at *
        generalize (digs (N % 10)).length = l4 at *
        generalize hdd : N % 10 = d at *
        go_wp2_with fail
        with_reducible refine cw.mono ?_
        rintro e w4 ⟨rfl, rfl⟩
        clear cw
        have hdg := HDG.out
        obtain ⟨cb, hcb⟩ : ∃ c, c = dgt N := ⟨_, rfl⟩
        rw [← hcb] at hdg
        have hcv := conv_one w4 cb
        have hst := str_cons cb (padD 0 n)
        have HPD := Lib.hid (show padD (0 + 1) n = cb :: padD 0 n by rw [HPAD.out, hcb])
        have HBE := Lib.hid (bstep HB.out ((Below.refl w4.heap.size w4).alloc (Nat.le_refl _) (.cells #[.int .u8 cb.toNat] 5)) (Nat.le_refl _))
        have HN4 := Lib.hid (HN3.out.keep ((Below.refl w4.heap.size w4).alloc (Nat.le_refl _) (.cells #[.int .u8 cb.toNat] 5)))
        clear hcb hdd hdm
        go_wp2_with fail
        go_roundw
        case rel => exact ⟨0 + 1, by go_num, by rw [HPD.out], HN4.out, by omega, HNEXT.out, HBE.out⟩
        case measure => simp [intOf]
      · have hlp : (0 : Int) < (l1 : Int) := by
          have : l1 ≠ 0 := fun h => hz (hl0.1 h)
          omega
        clear hl0 hgo hz
        go_wp2_with fail
        with_reducible refine (cf10 _).mono ?_
        rintro e w2 ⟨_, rfl, ⟨a2, c2, rfl, hs2⟩, _, hb2⟩
        have HB := Lib.hid (bstep hb hb2 (Nat.le_refl _))
        replace cdv := cdv w2 a2 c2 hb2 hs2
        clear hs2 hb hb2
        go_wp2_with fail
        with_reducible refine cdv.mono ?_
        rintro e w3 ⟨v3, u3, rfl, ⟨a3, c3, rfl, hs3⟩, ⟨a4, c4, rfl, hs4⟩, hb3⟩
        have cw := word_any (N % 10) a4 c4 w3 hs4
        rw [hdm] at cw
        replace HB := Lib.hid (bstep HB.out hb3 (Nat.le_refl _))
        have HN3 := Lib.hid (show NatV w3 (.slice a3 (digs (N / 10)).length c3) (n / 10 ^ (i + 1)) by rw [← HDIV.out]; exact ⟨a3, c3, rfl, hs3⟩)
        clear cdv hs3 hs4 hb3
        generalize (digs (N / 10)).length = l3 at *
        generalize (digs (N % 10)).length = l4 at *
        generalize hdd : N % 10 = d at *
        go_wp2_with fail
        with_reducible refine cw.mono ?_
        rintro e w4 ⟨rfl, rfl⟩
        clear cw
        have hdg := HDG.out
        obtain ⟨cb, hcb⟩ : ∃ c, c = dgt N := ⟨_, rfl⟩
        rw [← hcb] at hdg
        have hcv := conv_one w4 cb
        have hst := str_cons cb (padD i n)
        have HPD := Lib.hid (show padD (i + 1) n = cb :: padD i n by rw [HPAD.out, hcb])
        have HBE := Lib.hid (bstep HB.out ((Below.refl w4.heap.size w4).alloc (Nat.le_refl _) (.cells #[.int .u8 cb.toNat] 5)) (Nat.le_refl _))
        have HN4 := Lib.hid (HN3.out.keep ((Below.refl w4.heap.size w4).alloc (Nat.le_refl _) (.cells #[.int .u8 cb.toNat] 5)))
        clear hcb hdd hdm
        go_wp2_with fail
        go_roundw
        case rel => exact ⟨i + 1, by go_num, by rw [HPD.out], HN4.out, by omega, HNEXT.out, HBE.out⟩
        case measure => simp [intOf]; omega
end Go.Proofs.YtajebceanonalaaGreatDoor

namespace Go.Proofs.YtajebceanonalaaGreatDoor
set_option linter.unusedVariables false
open Go.RowKit

theorem puM_ok (M : Nat) (hM : M < 18446744073709551616) (l : List UInt8) (acc : Nat) (h : digL l) (hv : acc * 10 ^ l.length + valL l ≤ M) : Lib.parseUintM M acc l = .ok (acc * 10 ^ l.length + valL l) := by
  induction l generalizing acc with
  | nil => simp [Lib.parseUintM, valL, valS]
  | cons c l ih =>
    have h1 := (isDg_iff c).1 (h c (by simp))
    have e : acc * 10 ^ (c :: l).length + valL (c :: l) = (acc * 10 + (c.toNat - 48)) * 10 ^ l.length + valL l := by
      rw [List.length_cons, Nat.pow_succ, valL_cons, Nat.add_mul, Nat.mul_assoc acc 10, Nat.mul_comm 10 (10 ^ l.length)]; omega
    rw [e] at hv ⊢
    have h2 : acc * 10 + (c.toNat - 48) ≤ M := by
      have := Nat.le_mul_of_pos_right (acc * 10 + (c.toNat - 48)) (Nat.pow_pos (n := l.length) (show 0 < 10 by decide))
      omega
    rw [Lib.parseUintM, if_pos h1, if_neg (by omega), if_neg (by omega)]
    exact ih _ (fun x hx => h x (by simp [hx])) hv
theorem puM_range (M : Nat) (hM : M < 18446744073709551616) (l : List UInt8) (acc : Nat) (h : digL l) (ha : acc ≤ M) (hv : M < acc * 10 ^ l.length + valL l) : Lib.parseUintM M acc l = .range := by
  induction l generalizing acc with
  | nil => simp [valL, valS] at hv; omega
  | cons c l ih =>
    have h1 := (isDg_iff c).1 (h c (by simp))
    have e : acc * 10 ^ (c :: l).length + valL (c :: l) = (acc * 10 + (c.toNat - 48)) * 10 ^ l.length + valL l := by
      rw [List.length_cons, Nat.pow_succ, valL_cons, Nat.add_mul, Nat.mul_assoc acc 10, Nat.mul_comm 10 (10 ^ l.length)]; omega
    rw [e] at hv
    rw [Lib.parseUintM, if_pos h1]
    split
    · rfl
    · split
      · rfl
      · exact ih _ (fun x hx => h x (by simp [hx])) (by omega) hv
theorem pu_ok {l : List UInt8} (h : digL l) (hne : l ≠ []) (hv : valL l < 18446744073709551616) : Lib.parseUintB 64 l = .ok (valL l) := by
  unfold Lib.parseUintB
  rw [if_neg hne]
  have := puM_ok (2 ^ 64 - 1) (by decide) l 0 h (by simp; omega)
  simpa using this
theorem pu_range {l : List UInt8} (h : digL l) (hv : 18446744073709551616 ≤ valL l) : Lib.parseUintB 64 l = .range := by
  unfold Lib.parseUintB
  rw [if_neg (by intro h0; subst h0; simp [valL, valS] at hv)]
  exact puM_range (2 ^ 64 - 1) (by decide) l 0 h (by decide) (by simp; omega)
theorem pi_ok {l : List UInt8} (h : digL l) (hne : l ≠ []) (hv : valL l < 9223372036854775808) : Lib.parseIntB 64 l = .ok (valL l : Int) := by
  cases l with
  | nil => exact absurd rfl hne
  | cons c r =>
    have h1 := (isDg_iff c).1 (h c (by simp))
    have h2 := pu_ok h hne (by omega)
    unfold Lib.parseIntB
    simp only
    rw [if_neg (by omega), h2]
    simp only
    rw [if_neg (by omega), if_neg (by omega), if_neg (by omega)]

theorem div_digit (P d b : Nat) (hb : 0 < b) : (10 * P + d) / b = 10 * (P / b) + (10 * (P % b) + d) / b ∧ (10 * P + d) % b = (10 * (P % b) + d) % b := by
  have h := Nat.div_add_mod P b
  have e : 10 * P + d = b * (10 * (P / b)) + (10 * (P % b) + d) := by
    conv => lhs; rw [← h]
    rw [Nat.mul_add, Nat.mul_left_comm]; omega
  rw [e, Nat.mul_add_div hb, Nat.mul_add_mod]
  exact ⟨rfl, rfl⟩
theorem div_round (P d b i : Nat) (hb : 0 < b) (hd : d ≤ 9) : padD (i + 1) ((10 * P + d) / b) = padD i (P / b) ++ [dgt ((10 * (P % b) + d) / b)] := by
  have hq : (10 * (P % b) + d) / b < 10 := by
    rw [Nat.div_lt_iff_lt_mul hb]
    have := Nat.mod_lt P hb
    omega
  rw [padD_snoc, (div_digit P d b hb).1]
  generalize (10 * (P % b) + d) / b = q at *
  have e1 : (10 * (P / b) + q) / 10 = P / b := by omega
  have e2 : dgt (10 * (P / b) + q) = dgt q := by unfold dgt; rw [Nat.mul_add_mod]
  rw [e1, e2]

theorem conv_digI : ∀ (q : Nat) (h : q < 10) (w : World), (convert 21 9 (.int .i32 (48 + (q : Int)))).run Tryz.prog w = .ok (.string ⟨#[dgt q]⟩) w
  | 0, _, w => by kernel_rfl
  | 1, _, w => by kernel_rfl
  | 2, _, w => by kernel_rfl
  | 3, _, w => by kernel_rfl
  | 4, _, w => by kernel_rfl
  | 5, _, w => by kernel_rfl
  | 6, _, w => by kernel_rfl
  | 7, _, w => by kernel_rfl
  | 8, _, w => by kernel_rfl
  | 9, _, w => by kernel_rfl
  | n + 10, h, w => absurd h (by omega)

set_option maxRecDepth 100000 in
set_option maxHeartbeats 4000000 in
theorem divided_digits (V b : Nat) (hV : 0 < V) (hb1 : 2 ≤ b) (hb2 : b ≤ 5) (hdv : V % b = 0) (hlen : (Lib.decDigits V).length ≤ 1000) (w : World) :
    Calls Tryz.prog 104 #[.string ⟨(Lib.decDigits V).toArray⟩, .int .i64 b] w fun e w' => e = .returned (.string ⟨(Lib.decDigits (V / b)).toArray⟩) ∧ w' = w := by
  have hd := dec_digL V
  have hval := dec_valL V
  generalize hL : Lib.decDigits V = L at *
  have HD := Lib.hid hd
  have HVAL := Lib.hid hval
  have hVb : 0 < V / b := Nat.div_pos (by
    rcases Nat.lt_or_ge V b with h | h
    · rw [Nat.mod_eq_of_lt h] at hdv; omega
    · exact h) (by omega)
  have hVl : V / b < 10 ^ L.length := by
    have := valL_lt hd
    rw [hval] at this
    exact Nat.lt_of_le_of_lt (Nat.div_le_self _ _) this
  have HTR := Lib.hid (drop_pad L.length (V / b) hVb hVl)
  clear hd hval hL hVb hVl hdv hV
  have hb0 : ¬ b = 0 := by omega
  have hb0' : ((b : Int) == 0) = false := by rw [beq_eq_false_iff_ne]; omega
  go_enter Tryz.func104, Tryz.ntmps104
  go_wp2_with fail
  go_loopw [5, 6, 10] (fun s r x wr => ∃ i : Nat, x = .int .i64 (i : Nat) ∧ i ≤ L.length ∧ r = .int .i64 (valL (L.take i) % b : Nat) ∧ s = .string ⟨(padD i (valL (L.take i) / b)).toArray⟩ ∧ wr = w) (fun _ _ x _ => L.length - (intOf x).toNat)
  case atStart => exact ⟨0, rfl, Nat.zero_le _, by simp [valL, valS], by simp [padD], rfl⟩
  case round =>
    obtain ⟨i, rfl, hi, rfl, rfl, rfl⟩ := hrel
    by_cases hlt : (i : Int) < L.length
    · have hlt' : i < L.length := by omega
      have hget : (⟨L.toArray⟩ : ByteArray)[i]'hlt' = L[i] := rfl
      have hc := (isDg_iff L[i]).1 (HD.out L[i] (List.getElem_mem _))
      have hsn : valL (L.take (i + 1)) = 10 * valL (L.take i) + (L[i].toNat - 48) := by
        rw [List.take_succ_eq_append_getElem hlt', valL_snoc]
      have hpl := padD_len i (valL (L.take i) / b)
      have hmod : valL (L.take i) % b < b := Nat.mod_lt _ (by omega)
      have hround := div_round (valL (L.take i)) (L[i].toNat - 48) b i (by omega) (by omega)
      have hdig := (div_digit (valL (L.take i)) (L[i].toNat - 48) b (by omega)).2
      rw [← hsn] at hround hdig
      have HSN := Lib.hid (And.intro hround hdig)
      clear hround hdig hsn
      generalize hcc : L[i] = c at *
      generalize hrr : valL (L.take i) % b = r at *
      generalize padD i (valL (L.take i) / b) = S at *
      clear hrr hcc
      obtain ⟨d, hdd⟩ : ∃ d, d = c.toNat - 48 := ⟨_, rfl⟩
      have hcd : (c.toNat : Int) = 48 + (d : Int) := by omega
      rw [← hdd] at HSN
      have hd9 : d ≤ 9 := by omega
      have hq9 : (10 * r + d) / b < 10 := by rw [Nat.div_lt_iff_lt_mul (by omega)]; omega
      have t1 : (10 * (r : Int) + (48 + (d : Int) - 48)) / (b : Int) = (((10 * r + d) / b : Nat) : Int) := by
        rw [show 10 * (r : Int) + (48 + (d : Int) - 48) = ((10 * r + d : Nat) : Int) by omega, Int.natCast_ediv]
      have t2 : (10 * (r : Int) + (48 + (d : Int) - 48)) % (b : Int) = (((10 * r + d) % b : Nat) : Int) := by
        rw [show 10 * (r : Int) + (48 + (d : Int) - 48) = ((10 * r + d : Nat) : Int) by omega, Int.natCast_emod]
      have hr2 : (10 * r + d) % b < b := Nat.mod_lt _ (by omega)
      have hr5 : (r : Int) ≤ 4 := by omega
      generalize (10 * r + d) / b = q at *
      generalize (10 * r + d) % b = r2 at *
      have hcv := fun w => conv_digI q hq9 w
      have st := strA S [dgt q]
      have hl3 : ¬ 9223372036854775807 < S.length + 1 := by omega
      have hl4 : S.length < 9223372036854775807 := by omega
      have HSL := Lib.hid hpl
      clear hdd hc hr2 hmod hpl
      go_wp2_with fail
      go_roundw
      case rel => exact ⟨i + 1, by go_num, by omega, by rw [HSN.out.2, t2], by rw [HSN.out.1], trivial⟩
      case measure => simp [intOf]; omega
    · obtain rfl : i = L.length := by omega
      have HV2 := Lib.hid (show valL (L.take L.length) = V by rw [List.take_length, HVAL.out])
      rw [HV2.out]
      have ct := Tryz.strings_TrimLeft_one ⟨(padD L.length (V / b)).toArray⟩ 48 (by decide) wr
      rw [show Lib.trimLeftB (⟨(padD L.length (V / b)).toArray⟩ : ByteArray).data.toList 48 = Lib.decDigits (V / b) from HTR.out] at ct
      go_wp2_with fail
      with_reducible refine ct.mono ?_
      rintro e w1 ⟨rfl, rfl⟩
      clear ct
      go_wp2_with fail
      go_ret
      exact ⟨rfl, rfl⟩
end Go.Proofs.YtajebceanonalaaGreatDoor

namespace Go.Proofs.YtajebceanonalaaGreatDoor
set_option linter.unusedVariables false
open Go.RowKit

theorem dec_last (V : Nat) : ∃ P, Lib.decDigits V = P ++ [dgt V] := by
  obtain ⟨k, h1, _⟩ := dec_len V
  exact ⟨padD k (V / 10), by rw [h1, padD_snoc]⟩
theorem dgt_val (V : Nat) : (dgt V).toNat = 48 + V % 10 := by
  have e : dgt V = dgt (V % 10) := by unfold dgt; rw [Nat.mod_mod]
  rw [e, dgt_toNat (Nat.mod_lt _ (by decide))]
theorem last_dig (V : Nat) : ∃ p, (Lib.decDigits V).length = p + 1 ∧ ∃ h : p < (Lib.decDigits V).length, (⟨(Lib.decDigits V).toArray⟩ : ByteArray)[p]'h = dgt V := by
  obtain ⟨P, hP⟩ := dec_last V
  rw [hP]
  exact ⟨P.length, by simp, by simp, by show (P ++ [dgt V])[P.length]'_ = dgt V; simp⟩
def dnN (two i : Nat) : Nat := if i ≤ two then 2 ^ i else 2 ^ two * 5 ^ (i - two)
theorem dn_step (two i : Nat) : dnN two (i + 1) = dnN two i * (if two ≤ i then 5 else 2) := by
  unfold dnN
  by_cases h : i < two
  · rw [if_pos (by omega), if_pos (by omega), if_neg (by omega), Nat.pow_succ]
  · rw [if_neg (by omega), if_pos (show two ≤ i by omega)]
    by_cases h2 : i = two
    · subst h2; rw [if_pos (Nat.le_refl _)]; simp
    · rw [if_neg (by omega), Nat.mul_assoc, ← Nat.pow_succ]
      congr 2; omega
theorem dn_pos (two i : Nat) : 0 < dnN two i := by
  unfold dnN; split
  · exact Nat.pow_pos (by decide)
  · exact Nat.mul_pos (Nat.pow_pos (by decide)) (Nat.pow_pos (by decide))
theorem dn_mono (two i j : Nat) (h : i ≤ j) : dnN two i ≤ dnN two j := by
  obtain ⟨k, rfl⟩ : ∃ k, j = i + k := ⟨j - i, by omega⟩
  induction k with
  | zero => exact Nat.le_refl _
  | succ k ih =>
    refine Nat.le_trans (ih (by omega)) ?_
    rw [← Nat.add_assoc, dn_step]
    exact Nat.le_mul_of_pos_right _ (by split <;> decide)
theorem dn_end (two five : Nat) : dnN two (two + five) = 2 ^ two * 5 ^ five := by
  unfold dnN
  by_cases h : five = 0
  · subst h; rw [if_pos (by omega)]; simp
  · rw [if_neg (by omega), Nat.add_sub_cancel_left]
theorem fitE_den {neg : Bool} {V D : Nat} (hV : V ≠ 0) (h : 9223372036854775807 < D) : fitE neg V D = none := by unfold fitE; rw [if_neg hV, if_pos (.inl h)]
theorem fitE_num {neg : Bool} {V D : Nat} (h : 9223372036854775808 < V) : fitE neg V D = none := by unfold fitE; rw [if_neg (by omega), if_pos (.inr (.inl h))]
theorem below_or {w w' : World} {e : TypeId} {s : ByteArray} (h : w' = w ∨ w' = Lib.bytesWorld w e s) : Below w.heap.size w w' := by
  rcases h with rfl | rfl
  · exact Below.refl _ _
  · exact Joins.below_bytesWorld _ w e s (Nat.le_refl _)
theorem half_inv {v V two back : Nat} (h : v * 2 ^ (two + 1) = V * 2 ^ back) (hV : V % 2 = 0) : v * 2 ^ two = V / 2 * 2 ^ back := by
  obtain ⟨k, rfl⟩ := Nat.dvd_of_mod_eq_zero hV
  rw [Nat.mul_div_cancel_left _ (by decide)]
  rw [Nat.pow_succ, ← Nat.mul_assoc, Nat.mul_comm _ 2, Nat.mul_assoc 2 k] at h
  exact Nat.eq_of_mul_eq_mul_left (by decide) h
theorem fifth_inv {x V five back : Nat} (h : x * 5 ^ (five + 1) = V * 5 ^ back) (hV : V % 5 = 0) : x * 5 ^ five = V / 5 * 5 ^ back := by
  obtain ⟨k, rfl⟩ := Nat.dvd_of_mod_eq_zero hV
  rw [Nat.mul_div_cancel_left _ (by decide)]
  rw [Nat.pow_succ, ← Nat.mul_assoc, Nat.mul_comm _ 5, Nat.mul_assoc 5 k] at h
  exact Nat.eq_of_mul_eq_mul_left (by decide) h
theorem dec_len_mono {a b : Nat} (h : a ≤ b) : (Lib.decDigits a).length ≤ (Lib.decDigits b).length := by
  obtain ⟨k, h1, h2, _⟩ := dec_len b
  rw [h1, padD_len]
  exact dec_len_le a (k + 1) (Nat.lt_of_le_of_lt h h2) (by omega)
theorem dec_ge {V : Nat} (h : 19 < (Lib.decDigits V).length) : 10000000000000000000 ≤ V := by
  obtain ⟨k, h1, h2, h3⟩ := dec_len V
  rw [h1, padD_len] at h
  rcases h3 with rfl | h3
  · omega
  · exact Nat.le_trans (show 10000000000000000000 ≤ 10 ^ k from Nat.le_trans (by decide) (Nat.pow_le_pow_right (by decide) (show 19 ≤ k by omega))) h3
theorem dec_lt {V : Nat} (h : ¬ 19 < (Lib.decDigits V).length) : V < 10000000000000000000 := by
  obtain ⟨k, h1, h2, h3⟩ := dec_len V
  rw [h1, padD_len] at h
  exact Nat.lt_of_lt_of_le h2 (Nat.le_trans (Nat.pow_le_pow_right (by decide) (show k + 1 ≤ 19 by omega)) (by decide))

set_option maxRecDepth 100000 in
set_option maxHeartbeats 4000000 in
theorem long_any (neg : Bool) (v back : Nat) (hv : 0 < v) (hb : back ≤ 62) (hlen : (Lib.decDigits v).length ≤ 200) (w : World) :
    Calls Tryz.prog 62 #[.bool neg, .string ⟨(Lib.decDigits v).toArray⟩, .int .i64 back] w fun e w' => e = .returned (ratV (frac neg v (10 ^ back))) ∧ Below w.heap.size w w' := by
  obtain ⟨F, hF⟩ : ∃ F, F = frac neg v (10 ^ back) := ⟨_, rfl⟩
  rw [← hF]
  have HF := Lib.hid hF
  clear hF
  obtain ⟨tr, hsz, hbw⟩ := box1 w #[.int .i64 0, .int .i64 0] 23
  have TR := Lib.hid tr
  have HBW := Lib.hid hbw
  clear tr hsz hbw
  go_enter Tryz.func62, Tryz.ntmps62
  go_wp2_with fail
  generalize w.alloc (.cells #[.int .i64 0, .int .i64 0] 23) = W at *
  go_loopw [1, 8] (fun s x wr => ∃ V two : Nat, s = .string ⟨(Lib.decDigits V).toArray⟩ ∧ x = .int .i64 (two : Nat) ∧ two ≤ back ∧ 0 < V ∧ V ≤ v ∧ v * 2 ^ two = V * 2 ^ back ∧ wr = W) (fun _ x _ => (intOf x).toNat)
  case atStart => exact ⟨v, back, rfl, rfl, Nat.le_refl _, hv, Nat.le_refl _, rfl, rfl⟩
  case round =>
    obtain ⟨V, two, rfl, rfl, htw, hV0, hVv, hinv, rfl⟩ := hrel
    have HINV := Lib.hid hinv
    have hVl := Nat.le_trans (dec_len_mono hVv) hlen
    have cd : V % 2 = 0 → ∀ w : World, Calls Tryz.prog 104 #[.string ⟨(Lib.decDigits V).toArray⟩, .int .i64 2] w fun e w' => e = .returned (.string ⟨(Lib.decDigits (V / 2)).toArray⟩) ∧ w' = w := fun h w => divided_digits V 2 hV0 (by decide) (by decide) h (by omega) w
    obtain ⟨p, hp, hlt, hget⟩ := last_dig V
    have hdv : ((dgt V).toNat : Int) = 48 + ((V % 10 : Nat) : Int) := by rw [dgt_val]; omega
    have hsub : ((Lib.decDigits V).length : Int) - 1 = (p : Int) := by omega
    have hm9 : V % 10 ≤ 9 := by omega
    clear hinv
    generalize hL : Lib.decDigits V = L at *
    have HL := Lib.hid hL
    clear hL
    generalize dgt V = c at *
    have HP := Lib.hid hp
    clear hp
    obtain ⟨b, hb⟩ : ∃ b, b = decide (0 < two ∧ V % 2 = 0) := ⟨_, rfl⟩
    go_upto_region 2 with fail
    go_cut [28] (fun x wc => x = .bool b ∧ wc = wr)
    case first =>
      by_cases h0 : 0 < two
      · have h0' : (0 : Int) < two := by omega
        by_cases h2 : V % 2 = 0
        · have hb1 : b = true := by rw [hb]; exact decide_eq_true ⟨h0, h2⟩
          have e1 : (48 + ((V % 10 : Nat) : Int) - 48) % 2 = 0 := by omega
          subst hb1
          generalize V % 10 = m at *
          clear cd hb h2
          go_wp2_with fail
          go_meet
          case rel => exact ⟨rfl, rfl⟩
        · have hb1 : b = false := by rw [hb]; exact decide_eq_false (fun h => h2 h.2)
          have e1 : (48 + ((V % 10 : Nat) : Int) - 48) % 2 = 1 := by omega
          subst hb1
          generalize V % 10 = m at *
          clear cd hb h2
          go_wp2_with fail
          go_meet
          case rel => exact ⟨rfl, rfl⟩
      · have h0' : ¬ (0 : Int) < two := by omega
        have hb1 : b = false := by rw [hb]; exact decide_eq_false (fun h => h0 h.1)
        subst hb1
        clear cd hb
        go_wp2_with fail
        go_meet
        case rel => exact ⟨rfl, rfl⟩
    case rest =>
      obtain ⟨rfl, rfl⟩ := hcut
      clear hlt hget hdv hsub hm9
      cases b
      · have hend : two = 0 ∨ V % 2 ≠ 0 := by
          rcases Nat.eq_zero_or_pos two with h | h
          · exact .inl h
          · right; intro h2; rw [decide_eq_true ⟨h, h2⟩] at hb; cases hb
        clear cd hb
        have hl := HL.out
        subst hl
        clear HL HP
        go_wp2_with fail
        go_loopw [1, 9] (fun s x ws => ∃ X five : Nat, s = .string ⟨(Lib.decDigits X).toArray⟩ ∧ x = .int .i64 (five : Nat) ∧ five ≤ back ∧ 0 < X ∧ X ≤ V ∧ V * 5 ^ five = X * 5 ^ back ∧ (two = 0 ∨ X % 2 ≠ 0) ∧ ws = wc) (fun _ x _ => (intOf x).toNat)
        case atStart => exact ⟨V, back, rfl, rfl, Nat.le_refl _, hV0, Nat.le_refl _, rfl, hend, rfl⟩
        case round =>
          obtain ⟨X, five, rfl, rfl, hfw, hX0, hXV, hinv5, hend2, rfl⟩ := hrel
          have HINV5 := Lib.hid hinv5
          have HEND2 := Lib.hid hend2
          have hXl := Nat.le_trans (dec_len_mono (Nat.le_trans hXV hVv)) hlen
          have cd : X % 5 = 0 → ∀ w : World, Calls Tryz.prog 104 #[.string ⟨(Lib.decDigits X).toArray⟩, .int .i64 5] w fun e w' => e = .returned (.string ⟨(Lib.decDigits (X / 5)).toArray⟩) ∧ w' = w := fun h w => divided_digits X 5 hX0 (by decide) (by decide) h (by omega) w
          obtain ⟨p, hp, hlt, hget⟩ := last_dig X
          have hdv : ((dgt X).toNat : Int) = 48 + ((X % 10 : Nat) : Int) := by rw [dgt_val]; omega
          have hsub : ((Lib.decDigits X).length : Int) - 1 = (p : Int) := by omega
          have hm9 : X % 10 ≤ 9 := by omega
          clear hinv5 hend hend2
          generalize hL : Lib.decDigits X = L at *
          have HL := Lib.hid hL
          clear hL
          generalize dgt X = c at *
          have HP := Lib.hid hp
          clear hp
          obtain ⟨b, hb⟩ : ∃ b, b = decide (0 < five ∧ X % 5 = 0) := ⟨_, rfl⟩
          go_upto_region 5 with fail
          go_cut [43] (fun x wc => x = .bool b ∧ wc = wr)
          case first =>
            by_cases h0 : 0 < five
            · have h0' : (0 : Int) < five := by omega
              by_cases h2 : X % 5 = 0
              · have hb1 : b = true := by rw [hb]; exact decide_eq_true ⟨h0, h2⟩
                have e1 : (48 + ((X % 10 : Nat) : Int)) % 5 = 3 := by omega
                subst hb1
                generalize X % 10 = m at *
                clear cd hb h2
                go_wp2_with fail
                go_meet
                case rel => exact ⟨rfl, rfl⟩
              · have hb1 : b = false := by rw [hb]; exact decide_eq_false (fun h => h2 h.2)
                have e1 : ¬ (48 + ((X % 10 : Nat) : Int)) % 5 = 3 := by omega
                have e2 : (((48 + ((X % 10 : Nat) : Int)) % 5 == 3) = false) := by rw [beq_eq_false_iff_ne]; exact e1
                subst hb1
                generalize X % 10 = m at *
                clear cd hb h2
                go_wp2_with fail
                go_meet
                case rel => exact ⟨rfl, rfl⟩
            · have h0' : ¬ (0 : Int) < five := by omega
              have hb1 : b = false := by rw [hb]; exact decide_eq_false (fun h => h0 h.1)
              subst hb1
              clear cd hb
              go_wp2_with fail
              go_meet
              case rel => exact ⟨rfl, rfl⟩
          case rest =>
            obtain ⟨rfl, rfl⟩ := hcut
            clear hlt hget hdv hsub hm9
            cases b
            · have hend5 : five = 0 ∨ X % 5 ≠ 0 := by
                rcases Nat.eq_zero_or_pos five with h | h
                · exact .inl h
                · right; intro h2; rw [decide_eq_true ⟨h, h2⟩] at hb; cases hb
              clear cd hb
              have hl := HL.out
              subst hl
              clear HL HP
              have HFX : Hid (F = fitE neg X (2 ^ two * 5 ^ five)) := Lib.hid (by
                rw [HF.out, long_frac (V := X) (two := two) (five := five) (by
                  rw [← Nat.mul_assoc, HINV.out, Nat.mul_right_comm, HINV5.out, Nat.mul_assoc, ← Nat.mul_pow]), frac_cop (cop_end HEND2.out hend5)])
              clear HF HINV HINV5 HEND2 hend5
              have h2w : ¬ (62 : Int) < two := by omega
              by_cases h19 : (19 : Int) < (Lib.decDigits X).length
              · have HN := Lib.hid (show F = none by rw [HFX.out]; exact fitE_num (Nat.lt_of_lt_of_le (by decide) (dec_ge (V := X) (by omega))))
                obtain ⟨r0, r1, r2, r3⟩ := TR.out.two
                go_wp2_with fail
                exact bodyPost_ret (v := .tuple #[.agg #[.int .i64 0, .int .i64 0], errV 9]) (by simp [results, Tryz.results62, go_sem, r0, r1, errV]) rfl ⟨by rw [HN.out]; rfl, (HBW.out.setCell (by simp) _).setCell (by simp) _⟩
              by_cases h27 : (27 : Int) < five
              · have HN := Lib.hid (show F = none by rw [HFX.out]; exact fitE_den (by omega) (Nat.lt_of_lt_of_le (show 9223372036854775807 < 5 ^ 28 by decide) (Nat.le_trans (Nat.pow_le_pow_right (by decide) (show 28 ≤ five by omega)) (Nat.le_mul_of_pos_left _ (Nat.pow_pos (by decide))))))
                obtain ⟨r0, r1, r2, r3⟩ := TR.out.two
                go_wp2_with fail
                exact bodyPost_ret (v := .tuple #[.agg #[.int .i64 0, .int .i64 0], errV 9]) (by simp [results, Tryz.results62, go_sem, r0, r1, errV]) rfl ⟨by rw [HN.out]; rfl, (HBW.out.setCell (by simp) _).setCell (by simp) _⟩
              have hXlt : X < 10000000000000000000 := dec_lt (by omega)
              have cp := Tryz.strconv_ParseUint_10_at64_ok ⟨(Lib.decDigits X).toArray⟩ (by show (Lib.decDigits X).length ≤ _; omega) X (by
                show Lib.parseUintB 64 (Lib.decDigits X) = _
                have := pu_ok (dec_digL X) (by intro h; have h3 := dec_valL X; rw [h] at h3; simp [valL, valS] at h3; omega) (by rw [dec_valL]; omega)
                rwa [dec_valL] at this)
              generalize Lib.decDigits X = L at *
              go_upto_region 10 with fail
              go_wp2_with fail
              with_reducible refine (cp _).mono ?_
              rintro e w1 ⟨rfl, hb1⟩
              clear cp
              replace hb1 := below_or hb1
              have TR1 := Lib.hid (TR.out.keep hb1 (Nat.le_refl _))
              have HB1 := Lib.hid (show Below w.heap.size w w1 from bstep HBW.out hb1 (Nat.le_refl _))
              clear hb1
              go_wp2_with fail
              go_loopw [12, 13] (fun d x ws => ∃ i : Nat, d = .int .u64 (dnN two i : Nat) ∧ dnN two i ≤ 9223372036854775807 ∧ x = .int .i64 (i : Nat) ∧ i ≤ two + five ∧ ws = w1) (fun _ x _ => two + five - (intOf x).toNat)
              case atStart => exact ⟨0, rfl, by simp [dnN], rfl, Nat.zero_le _, rfl⟩
              case round =>
                obtain ⟨i, rfl, hd, rfl, hi, rfl⟩ := hrel
                have HD := Lib.hid hd
                have hdI : ((dnN two i : Nat) : Int) ≤ 9223372036854775807 := by omega
                clear hd
                by_cases hlt : (i : Int) < (two : Int) + (five : Int)
                · have hst := dn_step two i
                  by_cases hge : two ≤ i
                  · have hgeI : (two : Int) ≤ (i : Int) := by omega
                    rw [if_pos hge] at hst
                    by_cases hov : 1844674407370955161 < dnN two i
                    · have HN := Lib.hid (show F = none by
                        rw [HFX.out, ← dn_end]
                        exact fitE_den (by omega) (Nat.lt_of_lt_of_le (by omega) (dn_mono two (i + 1) (two + five) (by omega))))
                      have hovI : (1844674407370955161 : Int) < (dnN two i : Nat) := by omega
                      clear hst
                      generalize dnN two i = d at *
                      obtain ⟨r0, r1, r2, r3⟩ := TR1.out.two
                      go_wp2_with fail
                      exact bodyPost_ret (v := .tuple #[.agg #[.int .i64 0, .int .i64 0], errV 9]) (by simp [results, Tryz.results62, go_sem, r0, r1, errV]) rfl ⟨by rw [HN.out]; rfl, (HB1.out.setCell (by simp) _).setCell (by simp) _⟩
                    · have HS := Lib.hid (And.intro hst (show dnN two i * 5 ≤ 9223372036854775807 by omega))
                      have hovI : ¬ (1844674407370955161 : Int) < (dnN two i : Nat) := by omega
                      clear hst
                      generalize dnN two i = d at *
                      have hm : (d : Int) * 5 ≤ 9223372036854775807 := by omega
                      go_wp2_with fail
                      go_roundw
                      case rel => exact ⟨i + 1, by rw [HS.out.1]; first | rfl | go_num, by rw [HS.out.1]; exact HS.out.2, by go_num, by omega, trivial⟩
                      case measure => (simp [intOf] <;> omega)
                  · have hgeI : ¬ (two : Int) ≤ (i : Int) := by omega
                    rw [if_neg hge] at hst
                    by_cases hov : 4611686018427387903 < dnN two i
                    · have HN := Lib.hid (show F = none by
                        rw [HFX.out, ← dn_end]
                        exact fitE_den (by omega) (Nat.lt_of_lt_of_le (by omega) (dn_mono two (i + 1) (two + five) (by omega))))
                      have hovI : (4611686018427387903 : Int) < (dnN two i : Nat) := by omega
                      clear hst
                      generalize dnN two i = d at *
                      obtain ⟨r0, r1, r2, r3⟩ := TR1.out.two
                      go_wp2_with fail
                      exact bodyPost_ret (v := .tuple #[.agg #[.int .i64 0, .int .i64 0], errV 9]) (by simp [results, Tryz.results62, go_sem, r0, r1, errV]) rfl ⟨by rw [HN.out]; rfl, (HB1.out.setCell (by simp) _).setCell (by simp) _⟩
                    · have HS := Lib.hid (And.intro hst (show dnN two i * 2 ≤ 9223372036854775807 by omega))
                      have hovI : ¬ (4611686018427387903 : Int) < (dnN two i : Nat) := by omega
                      clear hst
                      generalize dnN two i = d at *
                      have hm : (d : Int) * 2 ≤ 9223372036854775807 := by omega
                      go_wp2_with fail
                      go_roundw
                      case rel => exact ⟨i + 1, by rw [HS.out.1]; first | rfl | go_num, by rw [HS.out.1]; exact HS.out.2, by go_num, by omega, trivial⟩
                      case measure => (simp [intOf] <;> omega)
                · obtain rfl : i = two + five := by omega
                  have HDE := Lib.hid (show dnN two (two + five) = 2 ^ two * 5 ^ five from dn_end two five)
                  have cf := fit_any neg X (dnN two (two + five)) (by omega) (by have := HD.out; omega)
                  rw [HDE.out, ← HFX.out, ← HDE.out, Nat.div_eq_of_lt (show X < 18446744073709551616 by omega), Nat.mod_eq_of_lt (show X < 18446744073709551616 by omega), Nat.div_eq_of_lt (show dnN two (two + five) < 18446744073709551616 by have := HD.out; omega), Nat.mod_eq_of_lt (show dnN two (two + five) < 18446744073709551616 by have := HD.out; omega)] at cf
                  clear HDE HD
                  generalize dnN two (two + five) = d at *
                  have cg : ∀ w : World, Calls Tryz.prog 21 #[.bool neg, .int .u64 0, .int .u64 (X : Nat), .int .u64 0, .int .u64 (d : Nat)] w fun e w' => e = .returned (ratV F) ∧ Below w.heap.size w w' := cf
                  clear cf HFX
                  go_wp2_with fail
                  with_reducible refine (cg _).mono ?_
                  rintro e w2 ⟨rfl, hb2⟩
                  clear cg
                  have TR2 := Lib.hid (TR1.out.keep hb2 (Nat.le_refl _))
                  have HB2 := Lib.hid (show Below w.heap.size w w2 from bstep HB1.out hb2 (Nat.le_refl _))
                  clear hb2
                  obtain ⟨r0, r1, r2, r3⟩ := TR2.out.two
                  rcases F with _ | ⟨x, y⟩
                  · simp only [ratV, errV]
                    go_wp2_with fail
                    exact bodyPost_ret (v := .tuple #[.agg #[.int .i64 0, .int .i64 0], errV 9]) (by simp [results, Tryz.results62, go_sem, r0, r1, errV]) rfl ⟨rfl, (HB2.out.setCell (by simp) _).setCell (by simp) _⟩
                  · simp only [ratV]
                    go_wp2_with fail
                    exact bodyPost_ret (v := .tuple #[.agg #[.int .i64 x, .int .i64 y], .nilIface]) (by simp [results, Tryz.results62, go_sem, r0, r1]) rfl ⟨rfl, (HB2.out.setCell (by simp) _).setCell (by simp) _⟩
            · obtain ⟨h0, h2⟩ := of_decide_eq_true hb.symm
              obtain ⟨t2, rfl⟩ : ∃ k, five = k + 1 := ⟨five - 1, by omega⟩
              have HNEXT := Lib.hid (fifth_inv HINV5.out h2)
              have HE2 : Hid (two = 0 ∨ X / 5 % 2 ≠ 0) := Lib.hid (by rcases HEND2.out with h | h; exact .inl h; right; omega)
              have cd2 := cd h2
              have hq : 0 < X / 5 := by omega
              have hq2 : X / 5 ≤ V := by omega
              clear cd hb
              generalize X / 5 = V2 at *
              have ht : ((t2 + 1 : Nat) : Int) - 1 = (t2 : Int) := by omega
              go_wp2_with fail
              with_reducible refine (cd2 _).mono ?_
              rintro e w1 ⟨rfl, rfl⟩
              clear cd2
              go_wp2_with fail
              go_roundw
              case rel => exact ⟨V2, t2, rfl, by first | rfl | go_num, by omega, hq, hq2, HNEXT.out, HE2.out, trivial⟩
              case measure => (simp [intOf] <;> omega)
      · obtain ⟨h0, h2⟩ := of_decide_eq_true hb.symm
        obtain ⟨t2, rfl⟩ : ∃ k, two = k + 1 := ⟨two - 1, by omega⟩
        have HNEXT := Lib.hid (half_inv HINV.out h2)
        have cd2 := cd h2
        have hq : 0 < V / 2 := by omega
        have hq2 : V / 2 ≤ v := by omega
        clear cd hb
        generalize V / 2 = V2 at *
        have ht : ((t2 + 1 : Nat) : Int) - 1 = (t2 : Int) := by omega
        go_wp2_with fail
        with_reducible refine (cd2 _).mono ?_
        rintro e w1 ⟨rfl, rfl⟩
        clear cd2
        go_wp2_with fail
        go_roundw
        case rel => exact ⟨V2, t2, rfl, by first | rfl | go_num, by omega, hq, hq2, HNEXT.out, trivial⟩
        case measure => simp [intOf]
end Go.Proofs.YtajebceanonalaaGreatDoor

namespace Go.Proofs.YtajebceanonalaaGreatDoor
set_option linter.unusedVariables false
open Go.RowKit

/-- the greatest common divisor, or one that is too great by far -/
def ComOK (m n p : Nat) : Prop := p = Nat.gcd m n ∨ (0 < p ∧ Nat.gcd m n ∣ p ∧ p * 18446744073709551616 ≤ n)
structure ComS (m n i p q : Nat) : Prop where
  gcd : Nat.gcd p q = Nat.gcd m n
  size : 1 ≤ i → q < p ∧ p * 2 ^ ((i - 1) / 2) ≤ n ∧ q * 2 ^ (i / 2) ≤ n
  first : i = 0 → p = m ∧ q = n
theorem comS_step {m n i p q : Nat} (h : ComS m n i p q) (hq : 0 < q) : ComS m n (i + 1) q (p % q) := by
  have hlt := Nat.mod_lt p hq
  refine ⟨?_, fun _ => ⟨hlt, ?_, ?_⟩, fun h0 => by omega⟩
  · rw [← h.gcd, Nat.gcd_comm p q, Nat.gcd_rec q p, Nat.gcd_comm]
  · rw [Nat.add_sub_cancel]
    rcases Nat.eq_zero_or_pos i with h0 | h0
    · subst h0
      obtain ⟨rfl, rfl⟩ := h.first rfl
      simp
    · exact (h.size h0).2.2
  · rcases Nat.eq_zero_or_pos i with h0 | h0
    · subst h0
      obtain ⟨rfl, rfl⟩ := h.first rfl
      simp
      omega
    · obtain ⟨h1, h2, h3⟩ := h.size h0
      have e : (i + 1) / 2 = (i - 1) / 2 + 1 := by omega
      have h4 : p % q * 2 ≤ p := by
        have h5 := Nat.div_add_mod p q
        have h6 : 1 ≤ p / q := (Nat.le_div_iff_mul_le hq).2 (by omega)
        have h7 := Nat.mul_le_mul_left q h6
        omega
      rw [e, Nat.pow_succ, Nat.mul_comm (2 ^ _) 2, ← Nat.mul_assoc]
      exact Nat.le_trans (Nat.mul_le_mul_right _ h4) h2
theorem comS_end {m n i p : Nat} (h : ComS m n i p 0) : ComOK m n p := .inl (by rw [← h.gcd, Nat.gcd_zero_right])
theorem comS_early {m n i p q : Nat} (h : ComS m n i p q) (hq : 0 < q) (hi : 64 * ((digs p).length + (digs q).length) + 2 ≤ i) : ComOK m n p := by
  have hql : 1 ≤ (digs q).length := by
    rcases Nat.eq_zero_or_pos (digs q).length with h0 | h0
    · have := (digs_len q 0).1 (by omega); simp at this; omega
    · exact h0
  obtain ⟨h1, h2, h3⟩ := h.size (by omega)
  have hpl : 1 ≤ (digs p).length := by
    rcases Nat.eq_zero_or_pos (digs p).length with h0 | h0
    · have := (digs_len p 0).1 (by omega); simp at this; omega
    · exact h0
  refine .inr ⟨by omega, by rw [← h.gcd]; exact Nat.gcd_dvd_left p q, ?_⟩
  have h4 : (2 : Nat) ^ 64 ≤ 2 ^ ((i - 1) / 2) := Nat.pow_le_pow_right (by decide) (by omega)
  have e : (2 : Nat) ^ 64 = 18446744073709551616 := by decide +kernel
  rw [e] at h4
  exact Nat.le_trans (Nat.mul_le_mul_left p h4) h2

def ComAt (m n g : Nat) (w wr : World) (x y i : Value) : Prop := ∃ p q k : Nat, g = q ∧ NatV wr x p ∧ NatV wr y q ∧ i = .int .i64 (k : Nat) ∧ ComS m n k p q ∧ (digs p).length ≤ 100000 ∧ (digs q).length ≤ 100000 ∧ k ≤ 64 * 200000 + 2 ∧ Below w.heap.size w wr
def RetCom (w : World) (m n : Nat) (e : Ending) (w' : World) : Prop := ∃ v p, e = .returned v ∧ NatV w' v p ∧ ComOK m n p ∧ (digs p).length ≤ 100000 ∧ Below w.heap.size w w'

set_option maxRecDepth 100000 in
set_option maxHeartbeats 4000000 in
theorem common_any (m n : Nat) (a b : Option Addr) (ca cb : Nat) (hm : (digs m).length ≤ 100000) (hn : (digs n).length ≤ 100000) (w : World) (hs : SlD w a ca (digs m)) (ht : SlD w b cb (digs n)) :
    Calls Tryz.prog 68 #[.slice a (digs m).length ca, .slice b (digs n).length cb] w (RetCom w m n) := by
  have HS := Lib.hid (show NatV w (.slice a (digs m).length ca) m from ⟨a, ca, rfl, hs⟩)
  have HT := Lib.hid (show NatV w (.slice b (digs n).length cb) n from ⟨b, cb, rfl, ht⟩)
  clear hs ht
  go_enter Tryz.func68, Tryz.ntmps68
  go_wp2_with fail
  go_loopg [0, 1, 5] n (fun g x y i wr => ComAt m n g w wr x y i)
  case atStart => exact ⟨m, n, 0, rfl, HS.out, HT.out, rfl, ⟨rfl, fun h => by omega, fun _ => ⟨rfl, rfl⟩⟩, hm, hn, by omega, Below.refl _ _⟩
  case round =>
    obtain ⟨p, q, k, hg, ⟨ap, cp, rfl, hsp⟩, ⟨aq, cq, rfl, hsq⟩, rfl, hc, hlp, hlq, hk, hb⟩ := hrel
    obtain ⟨gq, hgq⟩ : ∃ x, x = gk := ⟨_, rfl⟩
    subst hgq
    have HG := Lib.hid hg
    have HC := Lib.hid hc
    clear hg hc
    have hq0 : (digs q).length = 0 ↔ q = 0 := by rw [List.length_eq_zero_iff, digs_nil]
    have HNP := Lib.hid (show NatV wr (.slice ap (digs p).length cp) p from ⟨ap, cp, rfl, hsp⟩)
    have HNQ := Lib.hid (show NatV wr (.slice aq (digs q).length cq) q from ⟨aq, cq, rfl, hsq⟩)
    have HEARLY := Lib.hid (fun hq hi => comS_early HC.out (q := q) hq hi)
    by_cases hz : q = 0
    · have hl0 : (digs q).length = 0 := hq0.2 hz
      have HE := Lib.hid (show ComOK m n p by subst hz; exact comS_end HC.out)
      rw [hl0] at *
      clear hq0 hl0 hz hsp hsq HC HEARLY HG HS HT hm hn
      generalize hlpe : (digs p).length = lp at *
      have HLP := Lib.hid hlpe
      clear hlpe
      by_cases hlim : (k : Int) < 64 * (lp : Int) + 2
      · go_wp2_with fail
        go_ret
        exact ⟨_, p, rfl, HNP.out, HE.out, by rw [HLP.out]; exact hlp, hb⟩
      · go_wp2_with fail
        go_ret
        exact ⟨_, p, rfl, HNP.out, HE.out, by rw [HLP.out]; exact hlp, hb⟩
    · have hql : 0 < (digs q).length := by omega
      have cdv := divided_any p q (by omega) ap aq cp cq hlp hlq wr hsp hsq
      have HST := Lib.hid (comS_step HC.out (show 0 < q by omega))
      have hml : (digs (p % q)).length ≤ (digs q).length := (digs_len _ _).2 (Nat.lt_of_lt_of_le (Nat.mod_lt p (by omega)) (Nat.le_of_lt ((digs_len q _).1 (Nat.le_refl _))))
      have HML := Lib.hid (show (digs (p % q)).length ≤ 100000 by omega)
      have HLT := Lib.hid (Nat.mod_lt p (show 0 < q by omega))
      have hq1 : 0 < q := by omega
      have HQ1 := Lib.hid hq1
      clear hq0 hz hsp hsq HC hml hq1 HS HT hm hn
      generalize hlpe : (digs p).length = lp at *
      generalize hlqe : (digs q).length = lq at *
      have HLP := Lib.hid hlpe
      have HLQ := Lib.hid hlqe
      clear hlpe hlqe
      by_cases hlim : (k : Int) < 64 * ((lp : Int) + (lq : Int)) + 2
      · have hq2 : (0 : Int) < lq := by omega
        go_wp2_with fail
        with_reducible refine cdv.mono ?_
        rintro e w1 ⟨v, u, rfl, hnv, hnu, hb1⟩
        have HNU := Lib.hid hnu
        have HNQ1 := Lib.hid (HNQ.out.keep hb1)
        have HB1 := Lib.hid (bstep hb hb1 (Nat.le_refl _))
        clear hnv hnu hb1 cdv
        go_wp2_with fail
        go_roundg (p % q)
        case measure => rw [HG.out]; exact HLT.out
        case rel => exact ⟨q, p % q, k + 1, rfl, HNQ1.out, HNU.out, by go_num, HST.out, by rw [HLQ.out]; exact hlq, HML.out, by omega, HB1.out⟩
      · have HE := Lib.hid (HEARLY.out HQ1.out (by omega))
        clear cdv
        go_wp2_with fail
        go_ret
        exact ⟨_, p, rfl, HNP.out, HE.out, by rw [HLP.out]; exact hlp, hb⟩
end Go.Proofs.YtajebceanonalaaGreatDoor

namespace Go.Proofs.YtajebceanonalaaGreatDoor
set_option linter.unusedVariables false
open Go.RowKit

/-- the reference's answer: a fraction and an error's number -/
def refV (r : Option (Int × Int)) : Value :=
  match r with
  | some (n, d) => .tuple #[.agg #[.int .i64 n, .int .i64 d], .int .i64 0]
  | none => .tuple #[.agg #[.int .i64 0, .int .i64 0], .int .i64 9]

theorem frac_zero (neg : Bool) (D : Nat) : frac neg 0 D = some (0, 1) := by
  unfold frac; rw [Nat.zero_div]; exact fitE_zero _ _
theorem lowest_val (neg : Bool) (N D p : Nat) (h : ComOK N D p) (hN : N ≠ 0) (hD : 0 < D) :
    frac neg N D = (if 9223372036854775807 < D / p ∨ 9223372036854775808 < N / p ∨ (N / p = 9223372036854775808 ∧ neg = false) then none else some (sgn neg (N / p), ((D / p : Nat) : Int))) ∧ 0 < p := by
  have hg : 0 < Nat.gcd N D := Nat.gcd_pos_of_pos_right N hD
  rcases h with rfl | ⟨hp, hdv, hle⟩
  · refine ⟨?_, hg⟩
    have h0 : N / Nat.gcd N D ≠ 0 := by
      have h1 := Nat.div_mul_cancel (Nat.gcd_dvd_left N D)
      intro h2
      rw [h2] at h1
      simp at h1
      omega
    unfold frac fitE
    rw [if_neg h0]
  · have h1 : 18446744073709551616 ≤ D / p := by rw [Nat.le_div_iff_mul_le hp, Nat.mul_comm]; exact hle
    have h2 : D / p ≤ D / Nat.gcd N D := Nat.div_le_div_left (Nat.le_of_dvd hp hdv) hg
    refine ⟨?_, hp⟩
    rw [if_pos (.inl (by omega))]
    have h0 : N / Nat.gcd N D ≠ 0 := by
      have h1 := Nat.div_mul_cancel (Nat.gcd_dvd_left N D)
      intro h2
      rw [h2] at h1
      simp at h1
      omega
    unfold frac fitE
    rw [if_neg h0, if_pos (.inl (by omega))]
theorem neg_back (k : Nat) (h : k ≤ 9223372036854775808) : wrap64 (-(wrap64 (k : Int))) = -(k : Int) := by
  unfold wrap64; omega

set_option maxRecDepth 100000 in
set_option maxHeartbeats 4000000 in
theorem lowest_any (neg : Bool) (N D : Nat) (hD : 0 < D) (hn : (digs N).length ≤ 100000) (hd : (digs D).length ≤ 100000) (a b : Option Addr) (ca cb : Nat) (w : World) (hs : SlD w a ca (digs N)) (ht : SlD w b cb (digs D)) :
    Calls Tryz.prog 28 #[.agg #[.bool neg, .slice a (digs N).length ca, .slice b (digs D).length cb]] w fun e w' => e = .returned (refV (frac neg N D)) ∧ Below w.heap.size w w' := by
  obtain ⟨ta, tr, hsz, hbw⟩ := box2 w #[.bool neg, .slice a (digs N).length ca, .slice b (digs D).length cb] #[.int .i64 0, .int .i64 0] 60 23
  have HS := Lib.hid (show NatV w (.slice a (digs N).length ca) N from ⟨a, ca, rfl, hs⟩)
  have HT := Lib.hid (show NatV w (.slice b (digs D).length cb) D from ⟨b, cb, rfl, ht⟩)
  have TA := Lib.hid ta
  have TR := Lib.hid tr
  have HB := Lib.hid hbw
  clear ta tr hsz
  by_cases hN : N = 0
  · subst hN
    have hl0 : (digs 0).length = 0 := by rw [digs_zero]; rfl
    rw [frac_zero]
    rw [hl0] at *
    clear HS HT hs ht hbw
    go_enter Tryz.func28, Tryz.ntmps28
    go_wp2_with fail
    exact bodyPost_ret (v := .tuple #[.agg #[.int .i64 0, .int .i64 1], .int .i64 0]) (by simp [results, Tryz.results28, go_sem]) rfl ⟨rfl, by first | exact ((Below.refl _ _).alloc (Nat.le_refl _) _).alloc (by simp) _ | exact (HB.out.setCell (by simp) _).setCell (by simp) _⟩
  · have hl0 : ¬ (digs N).length = 0 := by rw [List.length_eq_zero_iff, digs_nil]; exact hN
    have hl1 : (((digs N).length : Int) == 0) = false := by rw [beq_eq_false_iff_ne]; omega
    obtain ⟨F, hF⟩ : ∃ F, F = frac neg N D := ⟨_, rfl⟩
    rw [← hF]
    have HF := Lib.hid hF
    have cc := common_any N D a b ca cb hn hd _ (hs.keep hbw (Nat.le_refl _)) (ht.keep hbw (Nat.le_refl _))
    have HN0 := Lib.hid hN
    have HD0 := Lib.hid hD
    clear hF hs ht hbw hN hl0
    go_enter Tryz.func28, Tryz.ntmps28
    go_wp2_with fail
    with_reducible refine cc.mono ?_
    rintro e w1 ⟨v, p, rfl, ⟨ap, cp, rfl, hsp⟩, hcom, hlp, hb1⟩
    obtain ⟨hfv, hp⟩ := lowest_val neg N D p hcom HN0.out HD0.out
    rw [← HF.out] at hfv
    have HFV := Lib.hid hfv
    have HSP := Lib.hid hsp
    have HP := Lib.hid hp
    replace TA := Lib.hid (TA.out.keep hb1 (Nat.le_refl _))
    replace TR := Lib.hid (TR.out.keep hb1 (Nat.le_refl _))
    have HB1 := Lib.hid (bstep HB.out hb1 (Nat.le_refl _))
    obtain ⟨y0, y1, y2, y3, y4, y5⟩ := TA.out.three
    obtain ⟨aN, cN, hNe, hsN⟩ := HS.out.keep HB1.out
    obtain ⟨aD, cD, hDe, hsD⟩ := HT.out.keep HB1.out
    simp only [Value.slice.injEq, true_and] at hNe hDe
    obtain ⟨rfl, rfl⟩ := hNe
    obtain ⟨rfl, rfl⟩ := hDe
    have d1 := divided_any N p hp a ap ca cp hn hlp w1 hsN hsp
    clear cc hcom hfv hsp hp hb1 hsN hsD
    go_wp2_with fail
    with_reducible refine d1.mono ?_
    rintro e w2 ⟨v1, u1, rfl, ⟨a1, c1, rfl, hs1⟩, _, hb2⟩
    replace TA := Lib.hid (TA.out.keep hb2 (Nat.le_refl _))
    replace TR := Lib.hid (TR.out.keep hb2 (Nat.le_refl _))
    have HB2 := Lib.hid (bstep HB1.out hb2 (Nat.le_refl _))
    clear y0 y1 y2 y3 y4 y5
    obtain ⟨y0, y1, y2, y3, y4, y5⟩ := TA.out.three
    obtain ⟨aD, cD, hDe, hsD⟩ := HT.out.keep HB2.out
    simp only [Value.slice.injEq, true_and] at hDe
    obtain ⟨rfl, rfl⟩ := hDe
    have d2 := divided_any D p HP.out b ap cb cp hd hlp w2 hsD (HSP.out.keep hb2 (Nat.le_refl _))
    have HS1 := Lib.hid hs1
    clear d1 hb2 hsD hs1
    go_wp2_with fail
    with_reducible refine d2.mono ?_
    rintro e w3 ⟨v2, u2, rfl, ⟨a2, c2, rfl, hs2⟩, _, hb3⟩
    replace TA := Lib.hid (TA.out.keep hb3 (Nat.le_refl _))
    replace TR := Lib.hid (TR.out.keep hb3 (Nat.le_refl _))
    have HB3 := Lib.hid (bstep HB2.out hb3 (Nat.le_refl _))
    have e1 := word_any (N / p) a1 c1 w3 (HS1.out.keep hb3 (Nat.le_refl _))
    have e2 := word_any (D / p) a2 c2 w3 hs2
    clear y0 y1 y2 y3 y4 y5 d2 hb3 hs2
    generalize N / p = x at *
    generalize D / p = y at *
    obtain ⟨one, hone⟩ : ∃ o, o = decide (x < 18446744073709551616) := ⟨_, rfl⟩
    obtain ⟨two, htwo⟩ : ∃ o, o = decide (y < 18446744073709551616) := ⟨_, rfl⟩
    have hxm := Nat.mod_lt x (show 0 < 18446744073709551616 by decide)
    have hym := Nat.mod_lt y (show 0 < 18446744073709551616 by decide)
    have HXM := Lib.hid (fun h : x < 18446744073709551616 => Nat.mod_eq_of_lt h)
    have HYM := Lib.hid (fun h : y < 18446744073709551616 => Nat.mod_eq_of_lt h)
    rw [← hone] at e1
    rw [← htwo] at e2
    generalize x % 18446744073709551616 = xm at *
    generalize y % 18446744073709551616 = ym at *
    have HONE := Lib.hid hone
    have HTWO := Lib.hid htwo
    clear hone htwo
    generalize hlx : (digs x).length = lx at *
    generalize hly : (digs y).length = ly at *
    clear hlx hly
    obtain ⟨y0, y1, y2, y3, y4, y5⟩ := TA.out.three
    obtain ⟨r0, r1, r2, r3⟩ := TR.out.two
    go_wp2_with fail
    with_reducible refine e1.mono ?_
    rintro e w4 ⟨rfl, rfl⟩
    go_wp2_with fail
    with_reducible refine e2.mono ?_
    rintro e w4 ⟨rfl, rfl⟩
    clear e1 e2
    have nx1 : (xm : Int) ≤ 18446744073709551615 := by omega
    have ny1 : (ym : Int) ≤ 18446744073709551615 := by omega
    clear hxm hym
    by_cases hov : 9223372036854775807 < y ∨ 9223372036854775808 < x ∨ (x = 9223372036854775808 ∧ neg = false)
    · have HNONE := Lib.hid (show F = none by rw [HFV.out, if_pos hov])
      cases one
      · clear hov
        go_wp2_with fail
        exact bodyPost_ret (v := .tuple #[.agg #[.int .i64 0, .int .i64 0], .int .i64 9]) (by simp [results, Tryz.results28, go_sem, r0, r1]) rfl ⟨by rw [HNONE.out]; rfl, (HB3.out.setCell (by simp) _).setCell (by simp) _⟩
      · have hx64 : x < 18446744073709551616 := of_decide_eq_true HONE.out.symm
        have hxx := HXM.out hx64
        cases two
        · clear hov hxx hx64
          go_wp2_with fail
          exact bodyPost_ret (v := .tuple #[.agg #[.int .i64 0, .int .i64 0], .int .i64 9]) (by simp [results, Tryz.results28, go_sem, r0, r1]) rfl ⟨by rw [HNONE.out]; rfl, (HB3.out.setCell (by simp) _).setCell (by simp) _⟩
        · have hy64 : y < 18446744073709551616 := of_decide_eq_true HTWO.out.symm
          have hyy := HYM.out hy64
          by_cases c3 : 9223372036854775807 < y
          · have k3 : 9223372036854775807 < (ym : Int) := by omega
            clear hov hxx hyy hx64 hy64 c3
            go_wp2_with fail
            exact bodyPost_ret (v := .tuple #[.agg #[.int .i64 0, .int .i64 0], .int .i64 9]) (by simp [results, Tryz.results28, go_sem, r0, r1]) rfl ⟨by rw [HNONE.out]; rfl, (HB3.out.setCell (by simp) _).setCell (by simp) _⟩
          · have k3 : ¬ 9223372036854775807 < (ym : Int) := by omega
            by_cases c4 : 9223372036854775808 < x
            · have k4 : 9223372036854775808 < (xm : Int) := by omega
              clear hov hxx hyy hx64 hy64 c3 c4
              go_wp2_with fail
              exact bodyPost_ret (v := .tuple #[.agg #[.int .i64 0, .int .i64 0], .int .i64 9]) (by simp [results, Tryz.results28, go_sem, r0, r1]) rfl ⟨by rw [HNONE.out]; rfl, (HB3.out.setCell (by simp) _).setCell (by simp) _⟩
            · have k4 : ¬ 9223372036854775808 < (xm : Int) := by omega
              obtain ⟨hx63, rfl⟩ : x = 9223372036854775808 ∧ neg = false := by
                rcases hov with h | h | h
                · omega
                · omega
                · exact h
              have k5 : ((xm : Int) == 9223372036854775808) = true := by rw [beq_iff_eq]; omega
              clear hov hxx hyy hx64 hy64 c3 c4 hx63
              go_wp2_with fail
              exact bodyPost_ret (v := .tuple #[.agg #[.int .i64 0, .int .i64 0], .int .i64 9]) (by simp [results, Tryz.results28, go_sem, r0, r1]) rfl ⟨by rw [HNONE.out]; rfl, (HB3.out.setCell (by simp) _).setCell (by simp) _⟩
    · have HSOME := Lib.hid (show F = some (sgn neg x, (y : Int)) by rw [HFV.out, if_neg hov])
      have hx64 : x < 18446744073709551616 := by omega
      have hy64 : y < 18446744073709551616 := by omega
      have hxx := HXM.out hx64
      have hyy := HYM.out hy64
      subst hxx hyy
      have o1 : one = true := by rw [HONE.out]; exact decide_eq_true hx64
      have o2 : two = true := by rw [HTWO.out]; exact decide_eq_true hy64
      subst o1 o2
      have k3 : ¬ 9223372036854775807 < (ym : Int) := by omega
      have k4 : ¬ 9223372036854775808 < (xm : Int) := by omega
      have HNB := Lib.hid (neg_back xm (by omega))
      cases neg
      · have k5 : ((xm : Int) == 9223372036854775808) = false := by
          rw [beq_eq_false_iff_ne]; intro h; exact hov (.inr (.inr ⟨by omega, rfl⟩))
        have k6 : (xm : Int) ≤ 9223372036854775807 := by rw [beq_eq_false_iff_ne] at k5; omega
        clear hov hx64 hy64
        go_wp2_with fail
        exact bodyPost_ret (v := .tuple #[.agg #[.int .i64 xm, .int .i64 ym], .int .i64 0]) (by simp [results, Tryz.results28, go_sem, r0, r1]) rfl ⟨by rw [HSOME.out]; rfl, (HB3.out.setCell (by simp) _).setCell (by simp) _⟩
      · clear hov hx64 hy64
        by_cases c5 : (xm : Int) = 9223372036854775808
        · have k5 : ((xm : Int) == 9223372036854775808) = true := by rw [beq_iff_eq]; exact c5
          clear c5
          go_wp2_with fail
          exact bodyPost_ret (v := .tuple #[.agg #[.int .i64 (wrap64 (-(wrap64 (xm : Int)))), .int .i64 ym], .int .i64 0]) (by simp [results, Tryz.results28, go_sem, r0, r1]) rfl ⟨by rw [HNB.out, HSOME.out]; rfl, (HB3.out.setCell (by simp) _).setCell (by simp) _⟩
        · have k5 : ((xm : Int) == 9223372036854775808) = false := by rw [beq_eq_false_iff_ne]; exact c5
          have k6 : (xm : Int) ≤ 9223372036854775807 := by omega
          clear c5
          go_wp2_with fail
          exact bodyPost_ret (v := .tuple #[.agg #[.int .i64 (-(xm : Int)), .int .i64 ym], .int .i64 0]) (by simp [results, Tryz.results28, go_sem, r0, r1]) rfl ⟨by rw [HSOME.out]; rfl, (HB3.out.setCell (by simp) _).setCell (by simp) _⟩
end Go.Proofs.YtajebceanonalaaGreatDoor

namespace Go.Proofs.YtajebceanonalaaGreatDoor
set_option linter.unusedVariables false
open Go.RowKit

set_option maxHeartbeats 1000000 in
theorem refsize_any (n : Int) (hn : -9223372036854775808 ≤ n ∧ n ≤ 9223372036854775807) (w : World) :
    Calls Tryz.prog 122 #[.int .i64 n] w fun e w' => e = .returned (.int .u64 (n.natAbs : Nat)) ∧ w' = w := by
  by_cases h : n < 0
  · have E0 := Lib.hid (show -(n + 1) + 1 = (n.natAbs : Int) by omega)
    have i1 : 0 ≤ -(n + 1) := by omega
    have i2 : -(n + 1) ≤ 9223372036854775807 := by omega
    go_enter Tryz.func122, Tryz.ntmps122
    go_wp2
    go_ret
    exact ⟨by rw [← E0.out]; rfl, rfl⟩
  · have E0 := Lib.hid (show (n.natAbs : Int) = n by omega)
    go_enter Tryz.func122, Tryz.ntmps122
    go_wp2
    go_ret
    exact ⟨by rw [E0.out]; rfl, rfl⟩

theorem digs64 {n : Nat} (h : n < 18446744073709551616) : (digs n).length ≤ 2 := (digs_len n 2).2 (by simpa using h)
theorem com64 {m n p : Nat} (h : ComOK m n p) (hn : n < 18446744073709551616) : p = Nat.gcd m n := by
  rcases h with h | ⟨h1, _, h2⟩
  · exact h
  · omega

set_option maxRecDepth 100000 in
set_option maxHeartbeats 2000000 in
theorem refright_any (n d : Int) (hn : In64 n) (hd : In64 d) (w : World) :
    Calls Tryz.prog 78 #[.agg #[.int .i64 n, .int .i64 d]] w fun e w' => e = .returned (.bool (rightB n d)) ∧ Below w.heap.size w w' := by
  obtain ⟨ta, hsz, hbw⟩ := box1 w #[.int .i64 n, .int .i64 d] 23
  have TA := Lib.hid ta
  have HB := Lib.hid hbw
  clear ta hsz hbw
  by_cases h1 : d < 1
  · have HR : Hid (rightB n d = false) := Lib.hid (by unfold rightB; rw [decide_eq_false (by omega), Bool.false_and])
    rw [HR.out]
    go_enter Tryz.func78, Tryz.ntmps78
    go_wp2_with fail
    go_ret
    exact ⟨rfl, HB.out⟩
  · unfold In64 at hn hd
    have s1 := refsize_any n hn
    have s2 := refsize_any d hd
    have hnl : n.natAbs < 18446744073709551616 := by omega
    have hdl : d.natAbs < 18446744073709551616 := by omega
    have HR : Hid (rightB n d = decide (Nat.gcd n.natAbs d.natAbs = 1)) := Lib.hid (by
      unfold rightB
      rw [decide_eq_true (show 1 ≤ d by omega), Bool.true_and, Nat.gcd_comm, Bool.eq_iff_iff, beq_iff_eq, decide_eq_true_eq])
    have hg0 : 0 < Nat.gcd n.natAbs d.natAbs := Nat.gcd_pos_of_pos_right _ (by omega)
    have hgl : Nat.gcd n.natAbs d.natAbs < 18446744073709551616 := Nat.lt_of_le_of_lt (Nat.gcd_le_right _ (by omega)) hdl
    obtain ⟨b, hb⟩ : ∃ b, b = rightB n d := ⟨_, rfl⟩
    rw [← hb]
    have HBB := Lib.hid hb
    clear hb
    generalize n.natAbs = N at *
    generalize d.natAbs = D at *
    have HGB := Lib.hid (And.intro hg0 hgl)
    have HNL := Lib.hid (And.intro hnl hdl)
    clear hg0 hgl
    go_enter Tryz.func78, Tryz.ntmps78
    go_wp2_with fail
    generalize w.alloc (.cells #[.int .i64 n, .int .i64 d] 23) = W at *
    obtain ⟨f0, f1, f2, f3⟩ := TA.out.two
    refine wp_region_held_drew (S := (fun (w' : World) => Below W.heap.size W w' ∧ w'.cell? ⟨w.heap.size, 0, none⟩ = some (.int .i64 n) ∧ w'.cell? ⟨w.heap.size, 1, none⟩ = some (.int .i64 d))) (by kernel_rfl) ⟨(Below.refl _ _).drew, f0, f1⟩ (fun hHeld => ?_)
    refine held_take 0 (v := ?_) rfl (by kernel_rfl) (by kernel_rfl) (by kernel_rfl) (fun _ _ _ h => h) (by assumption) ?_ ?_
    rotate_left
    · first | (refine Or.inr ⟨?_, ?_⟩ <;> rfl) | (refine Or.inl ⟨by rfl, ?_⟩; intro w hSw; (try dsimp only at hSw); first | (go_simp; done) | (go_simp; with_reducible rfl))
    try simp only [Act.put, List.setIfInBounds_toArray, List.set_cons_zero, List.set_cons_succ]
    refine held_take 1 (v := ?_) rfl (by kernel_rfl) (by kernel_rfl) (by kernel_rfl) (fun _ _ _ h => h) (by assumption) ?_ ?_
    rotate_left
    · first | (refine Or.inr ⟨?_, ?_⟩ <;> rfl) | (refine Or.inl ⟨by rfl, ?_⟩; intro w hSw; (try dsimp only at hSw); first | (go_simp; done) | (go_simp; with_reducible rfl))
    try simp only [Act.put, List.setIfInBounds_toArray, List.set_cons_zero, List.set_cons_succ]
    refine held_take 4 (v := ?_) rfl (by kernel_rfl) (by kernel_rfl) (by kernel_rfl) (fun _ _ _ h => h) (by assumption) ?_ ?_
    rotate_left
    · first | (refine Or.inr ⟨?_, ?_⟩ <;> rfl) | (refine Or.inl ⟨by rfl, ?_⟩; intro w hSw; (try dsimp only at hSw); first | (go_simp; done) | (go_simp; with_reducible rfl))
    try simp only [Act.put, List.setIfInBounds_toArray, List.set_cons_zero, List.set_cons_succ]
    refine held_take 5 (v := ?_) rfl (by kernel_rfl) (by kernel_rfl) (by kernel_rfl) (fun _ _ _ h => h) (by assumption) ?_ ?_
    rotate_left
    · first | (refine Or.inr ⟨?_, ?_⟩ <;> rfl) | (refine Or.inl ⟨by rfl, ?_⟩; intro w hSw; (try dsimp only at hSw); first | (go_simp; done) | (go_simp; with_reducible rfl))
    try simp only [Act.put, List.setIfInBounds_toArray, List.set_cons_zero, List.set_cons_succ]
    refine held_call 2 rfl (by kernel_rfl) (fun K hK => ?_)
    go_simp
    with_reducible refine (s1 _).mono ?_
    rintro e w1 ⟨rfl, rfl⟩
    refine hK.out _ _ ?_ (fun hHeld => ?_)
    · first | exact hHeld | exact ⟨bstep hHeld.1 hbk (Nat.le_refl _), cell_keep' hHeld.2.1 hbk, cell_keep' hHeld.2.2 hbk⟩
    clear hK K
    try simp only [Act.put, List.setIfInBounds_toArray, List.set_cons_zero, List.set_cons_succ]
    refine held_call 3 rfl (by kernel_rfl) (fun K hK => ?_)
    go_simp
    with_reducible refine (from_any N hnl _).mono ?_
    rintro e w2 ⟨v1, rfl, ⟨a1, c1, rfl, hs1⟩, _, hbk⟩
    have hbA := hbk
    refine hK.out _ _ ?_ (fun hHeld => ?_)
    · first | exact hHeld | exact ⟨bstep hHeld.1 hbk (Nat.le_refl _), cell_keep' hHeld.2.1 hbk, cell_keep' hHeld.2.2 hbk⟩
    clear hK K
    try simp only [Act.put, List.setIfInBounds_toArray, List.set_cons_zero, List.set_cons_succ]
    refine held_call 6 rfl (by kernel_rfl) (fun K hK => ?_)
    go_simp
    with_reducible refine (s2 _).mono ?_
    rintro e w1 ⟨rfl, rfl⟩
    refine hK.out _ _ ?_ (fun hHeld => ?_)
    · first | exact hHeld | exact ⟨bstep hHeld.1 hbk (Nat.le_refl _), cell_keep' hHeld.2.1 hbk, cell_keep' hHeld.2.2 hbk⟩
    clear hK K
    try simp only [Act.put, List.setIfInBounds_toArray, List.set_cons_zero, List.set_cons_succ]
    refine held_call 7 rfl (by kernel_rfl) (fun K hK => ?_)
    go_simp
    with_reducible refine (from_any D hdl _).mono ?_
    rintro e w3 ⟨v2, rfl, ⟨a2, c2, rfl, hs2⟩, _, hbk⟩
    have hbB := hbk
    refine hK.out _ _ ?_ (fun hHeld => ?_)
    · first | exact hHeld | exact ⟨bstep hHeld.1 hbk (Nat.le_refl _), cell_keep' hHeld.2.1 hbk, cell_keep' hHeld.2.2 hbk⟩
    clear hK K
    try simp only [Act.put, List.setIfInBounds_toArray, List.set_cons_zero, List.set_cons_succ]
    refine held_call 8 rfl (by kernel_rfl) (fun K hK => ?_)
    go_simp
    with_reducible refine (common_any N D a1 a2 c1 c2 (by have := digs64 hnl; omega) (by have := digs64 hdl; omega) _ (hs1.keep hbB (Nat.le_refl _)) hs2).mono ?_
    rintro e w4 ⟨v3, p, rfl, ⟨a3, c3, rfl, hs3⟩, hcom, hlp, hbk⟩
    refine hK.out _ _ ?_ (fun hHeld => ?_)
    · first | exact hHeld | exact ⟨bstep hHeld.1 hbk (Nat.le_refl _), cell_keep' hHeld.2.1 hbk, cell_keep' hHeld.2.2 hbk⟩
    clear hK K
    try simp only [Act.put, List.setIfInBounds_toArray, List.set_cons_zero, List.set_cons_succ]
    refine held_take 9 (v := ?_) rfl (by kernel_rfl) (by kernel_rfl) (by kernel_rfl) (fun _ _ _ h => h) (by assumption) ?_ ?_
    rotate_left
    · first | (refine Or.inr ⟨?_, ?_⟩ <;> rfl) | (refine Or.inl ⟨by rfl, ?_⟩; intro w hSw; (try dsimp only at hSw); first | (go_simp; done) | (go_simp; with_reducible rfl))
    try simp only [Act.put, List.setIfInBounds_toArray, List.set_cons_zero, List.set_cons_succ]
    refine wpAnyH_done (by kernel_rfl) ?_ _
    have HB3 := Lib.hid (HB.out.trans (hHeld.1.mono HB.out.size))
    have hpe := com64 hcom HNL.out.2
    rw [← hpe] at HGB
    have cw := word_any p a3 c3 _ hs3
    rw [Nat.mod_eq_of_lt HGB.out.2, decide_eq_true HGB.out.2] at cw
    have eb : ((p : Int) == 1) = b := by
      rw [HBB.out, HR.out, Bool.eq_iff_iff, beq_iff_eq, decide_eq_true_eq, ← hpe]; omega
    clear hcom hpe
    go_wp2_with fail
    with_reducible refine cw.mono ?_
    rintro e w5 ⟨rfl, rfl⟩
    clear cw
    go_wp2_with fail
    go_ret
    exact ⟨rfl, HB3.out⟩

set_option maxRecDepth 100000 in
set_option maxHeartbeats 2000000 in
theorem refnew_any (n d : Int) (hn : In64 n) (hd : In64 d) (w : World) :
    Calls Tryz.prog 77 #[.int .i64 n, .int .i64 d] w fun e w' => e = .returned (if d = 0 then .tuple #[.agg #[.int .i64 0, .int .i64 0], .int .i64 10] else refV (frac (decide (n < 0) != decide (d < 0)) n.natAbs d.natAbs)) ∧ Below w.heap.size w w' := by
  by_cases h0 : d = 0
  · subst h0
    rw [if_pos rfl]
    have HB0 := Lib.hid (Below.refl w.heap.size w)
    go_enter Tryz.func77, Tryz.ntmps77
    go_wp2_with fail
    exact bodyPost_ret (v := .tuple #[.agg #[.int .i64 0, .int .i64 0], .int .i64 10]) (by simp [results, Tryz.results77, go_sem]) rfl ⟨rfl, by first | exact HB0.out | exact HB0.out.alloc (Nat.le_refl _) _ | exact (HB0.out.alloc (Nat.le_refl _) _).alloc (by simp) _⟩
  · rw [if_neg h0]
    have hz : (d == 0) = false := by rw [beq_eq_false_iff_ne]; exact h0
    unfold In64 at hn hd
    have s1 := refsize_any n hn
    have s2 := refsize_any d hd
    have hnl : n.natAbs < 18446744073709551616 := by omega
    have hdl : d.natAbs < 18446744073709551616 := by omega
    have hD0 : 0 < d.natAbs := by omega
    obtain ⟨ta, hsz, hbw⟩ := box1 w #[.int .i64 0, .int .i64 0] 23
    have TR := Lib.hid ta
    have HBA := Lib.hid hbw
    clear ta hsz hbw
    obtain ⟨sg, hsg⟩ : ∃ sg, sg = (decide (n < 0) != decide (d < 0)) := ⟨_, rfl⟩
    rw [← hsg]
    obtain ⟨F, hF⟩ : ∃ F, F = frac sg n.natAbs d.natAbs := ⟨_, rfl⟩
    rw [← hF]
    have HF := Lib.hid hF
    clear hF
    generalize n.natAbs = N at *
    generalize d.natAbs = D at *
    have hsg2 : (!decide (n < 0) == decide (d < 0)) = sg := by rw [hsg]; cases decide (n < 0) <;> cases decide (d < 0) <;> rfl
    have HSG := Lib.hid hsg2
    clear hsg hsg2
    have hbz := Nat.le_of_eq (Eq.refl w.heap.size)
    go_enter Tryz.func77, Tryz.ntmps77
    go_wp2_with fail
    with_reducible refine (s1 _).mono ?_
    rintro e w1 ⟨rfl, rfl⟩
    go_wp2_with fail
    with_reducible refine (from_any N hnl _).mono ?_
    rintro e w2 ⟨v1, rfl, ⟨a1, c1, rfl, hs1⟩, _, hbA⟩
    go_wp2_with fail
    with_reducible refine (s2 _).mono ?_
    rintro e w1 ⟨rfl, rfl⟩
    go_wp2_with fail
    with_reducible refine (from_any D hdl _).mono ?_
    rintro e w3 ⟨v2, rfl, ⟨a2, c2, rfl, hs2⟩, _, hbB⟩
    go_wp2_with fail
    rw [HSG.out]
    have HBW := Lib.hid (HBA.out.trans (((hbA.mono HBA.out.size).trans (hbB.mono (Nat.le_trans HBA.out.size hbA.size)))))
    have hlN : (digs N).length ≤ 100000 := by have := digs64 hnl; omega
    have hlD : (digs D).length ≤ 100000 := by have := digs64 hdl; omega
    have cl := lowest_any sg N D hD0 hlN hlD a1 a2 c1 c2 _ (hs1.keep hbB (Nat.le_refl _)) hs2
    rw [← HF.out] at cl
    clear HF
    replace TR := Lib.hid ((TR.out.keep hbA (Nat.le_refl _)).keep hbB (Nat.le_refl _))
    clear hs1 hs2 hbA hbB hlN hlD
    with_reducible refine cl.mono ?_
    rintro e w4 ⟨rfl, hbC⟩
    have HBC := Lib.hid (HBW.out.trans (hbC.mono HBW.out.size))
    obtain ⟨r0, r1, r2, r3⟩ := (TR.out.keep hbC (Nat.le_refl _)).two
    clear cl hbC TR
    rcases F with _ | ⟨x, y⟩
    · unfold refV
      go_wp2_with fail
      exact bodyPost_ret (v := .tuple #[.agg #[.int .i64 0, .int .i64 0], .int .i64 9]) (by simp [results, Tryz.results77, go_sem, r0, r1]) rfl ⟨rfl, by first | exact HBC.out | exact (HBC.out.setCell (by simp) _).setCell (by simp) _⟩
    · unfold refV
      go_wp2_with fail
      exact bodyPost_ret (v := .tuple #[.agg #[.int .i64 x, .int .i64 y], .int .i64 0]) (by simp [results, Tryz.results77, go_sem, r0, r1]) rfl ⟨rfl, by first | exact HBC.out | exact (HBC.out.setCell (by simp) _).setCell (by simp) _⟩
end Go.Proofs.YtajebceanonalaaGreatDoor

namespace Go.Proofs.YtajebceanonalaaGreatDoor
set_option linter.unusedVariables false
open Go.RowKit

/-- a fraction of the reference: its sign, its two numbers -/
def FracV (w : World) (v : Value) (neg : Bool) (N D : Nat) : Prop := ∃ x y, v = .agg #[.bool neg, x, y] ∧ NatV w x N ∧ NatV w y D
theorem FracV.keep {w w' : World} {v : Value} {neg : Bool} {N D : Nat} (h : FracV w v neg N D) (hb : Below w.heap.size w w') : FracV w' v neg N D := by
  obtain ⟨x, y, e, h1, h2⟩ := h
  exact ⟨x, y, e, h1.keep hb, h2.keep hb⟩
def RetFrac (w : World) (neg : Bool) (N D : Nat) (e : Ending) (w' : World) : Prop := ∃ v, e = .returned v ∧ FracV w' v neg N D ∧ Below w.heap.size w w'
theorem natV_low {w : World} {v : Value} {n : Nat} (h : NatV w v n) {g q : Nat} {u : Value} (hg : ∀ ad k c, v = .slice (some ad) k c → ad.block ≠ g) : NatV (w.setCell ⟨g, q, none⟩ u) v n :=
  natV_set (len := 0) (cap := 0) h fun ad k c e1 bd k' c' e2 => by
    cases e2
    exact hg ad k c e1
theorem natV_set3 {w : World} {v : Value} {n : Nat} (h : NatV w v n) {g : Nat} {cs : Array Value} (hg : Blk w g cs) (hT : FreshV (g + 1) v ∨ BelowV g v) (a b c : Value) :
    NatV (((w.setCell ⟨g, 0, none⟩ a).setCell ⟨g, 1, none⟩ b).setCell ⟨g, 2, none⟩ c) v n := by
  have hne : ∀ ad k c, v = .slice (some ad) k c → ad.block ≠ g := fun ad k c e => by
    rcases hT with h1 | h1
    · have := h1 ad k c e; omega
    · have := h1 ad k c e; omega
  exact natV_low (natV_low (natV_low h hne) hne) hne
theorem FreshV.low {B B' : Nat} {v : Value} (h : FreshV B v) (hb : B' ≤ B) : FreshV B' v := fun a n c e => Nat.le_trans hb (h a n c e)
theorem Blk.set {w : World} {k : Nat} {cs : Array Value} (h : Blk w k cs) (j : Nat) (v : Value) : Blk (w.setCell ⟨k, j, none⟩ v) k (cs.setIfInBounds j v) := by
  obtain ⟨T, h⟩ := h
  refine ⟨T, ?_⟩
  simp [World.setCell, Array.getElem?_modify, h]
theorem Blk.set3 {w : World} {k : Nat} {x y z : Value} (h : Blk w k #[x, y, z]) (a b c : Value) : Blk (((w.setCell ⟨k, 0, none⟩ a).setCell ⟨k, 1, none⟩ b).setCell ⟨k, 2, none⟩ c) k #[a, b, c] := ((h.set 0 a).set 1 b).set 2 c
theorem Blk.other3 {w : World} {k g : Nat} {cs : Array Value} (h : Blk w k cs) (hg : g ≠ k) (a b c : Value) : Blk (((w.setCell ⟨g, 0, none⟩ a).setCell ⟨g, 1, none⟩ b).setCell ⟨g, 2, none⟩ c) k cs := ((h.other hg a).other hg b).other hg c
theorem below_set3 {B g : Nat} {w w' : World} (h : Below B w w') (hg : B ≤ g) (a b c : Value) : Below B w (((w'.setCell ⟨g, 0, none⟩ a).setCell ⟨g, 1, none⟩ b).setCell ⟨g, 2, none⟩ c) := ((h.setCell hg a).setCell hg b).setCell hg c



set_option maxRecDepth 100000 in
set_option maxHeartbeats 2000000 in
theorem of_any (n d : Int) (hn : In64 n) (hd : In64 d) (w : World) :
    Calls Tryz.prog 124 #[.agg #[.int .i64 n, .int .i64 d]] w (RetFrac w (decide (n < 0)) n.natAbs d.natAbs) := by
  unfold In64 at hn hd
  have s1 := refsize_any n hn
  have s2 := refsize_any d hd
  have hnl : n.natAbs < 18446744073709551616 := by omega
  have hdl : d.natAbs < 18446744073709551616 := by omega
  generalize n.natAbs = N at *
  generalize d.natAbs = D at *
  obtain ⟨ta, tr, hsz, hbw⟩ := box2 w #[.int .i64 n, .int .i64 d] #[.bool false, .slice none 0 0, .slice none 0 0] 23 60
  have TA := Lib.hid ta
  have TR := Lib.hid tr
  have HB := Lib.hid hbw
  have HSZ := Lib.hid hsz
  clear ta tr hsz hbw
  go_enter Tryz.func124, Tryz.ntmps124
  go_wp2_with fail
  generalize (w.alloc (.cells #[.int .i64 n, .int .i64 d] 23)).alloc (.cells #[.bool false, .slice none 0 0, .slice none 0 0] 60) = W at *
  obtain ⟨f0, f1, f2, f3⟩ := TA.out.two
  refine wp_region_held_drew (S := (fun (w' : World) => w'.cell? ⟨w.heap.size, 0, none⟩ = some (.int .i64 n) ∧ w'.cell? ⟨w.heap.size, 1, none⟩ = some (.int .i64 d) ∧ Blk w' w.heap.size #[.int .i64 n, .int .i64 d] ∧ Below w.heap.size w w' ∧ w.heap.size + 2 ≤ w'.heap.size ∧ ∃ x y z, Blk w' (w.heap.size + 1) #[x, y, z])) (by kernel_rfl) ⟨f0, f1, TA.out.keep (Below.refl _ _).drew (Nat.le_refl _), HB.out.drew, Nat.le_of_eq HSZ.out.symm, _, _, _, TR.out.keep (Below.refl _ _).drew (Nat.le_refl _)⟩ (fun hHeld => ?_)
  refine held_take 0 (v := ?_) rfl (by kernel_rfl) (by kernel_rfl) (by kernel_rfl) (fun _ _ _ h => h) (by assumption) ?_ ?_
  rotate_left
  · first | (refine Or.inr ⟨?_, ?_⟩ <;> rfl) | (refine Or.inl ⟨by rfl, ?_⟩; intro w hSw; (try dsimp only at hSw); first | (go_simp; done) | (go_simp; with_reducible rfl))
  try simp only [Act.put, List.setIfInBounds_toArray, List.set_cons_zero, List.set_cons_succ]
  refine held_take 1 (v := ?_) rfl (by kernel_rfl) (by kernel_rfl) (by kernel_rfl) (fun _ _ _ h => h) (by assumption) ?_ ?_
  rotate_left
  · first | (refine Or.inr ⟨?_, ?_⟩ <;> rfl) | (refine Or.inl ⟨by rfl, ?_⟩; intro w hSw; (try dsimp only at hSw); first | (go_simp; done) | (go_simp; with_reducible rfl))
  try simp only [Act.put, List.setIfInBounds_toArray, List.set_cons_zero, List.set_cons_succ]
  refine held_take 2 (v := ?_) rfl (by kernel_rfl) (by kernel_rfl) (by kernel_rfl) (fun _ _ _ h => h) (by assumption) ?_ ?_
  rotate_left
  · first | (refine Or.inr ⟨?_, ?_⟩ <;> rfl) | (refine Or.inl ⟨by rfl, ?_⟩; intro w hSw; (try dsimp only at hSw); first | (go_simp; done) | (go_simp; with_reducible rfl))
  try simp only [Act.put, List.setIfInBounds_toArray, List.set_cons_zero, List.set_cons_succ]
  refine held_take 3 (v := ?_) rfl (by kernel_rfl) (by kernel_rfl) (by kernel_rfl) (fun _ _ _ h => h) (by assumption) ?_ ?_
  rotate_left
  · first | (refine Or.inr ⟨?_, ?_⟩ <;> rfl) | (refine Or.inl ⟨by rfl, ?_⟩; intro w hSw; (try dsimp only at hSw); first | (go_simp; done) | (go_simp; with_reducible rfl))
  try simp only [Act.put, List.setIfInBounds_toArray, List.set_cons_zero, List.set_cons_succ]
  refine held_take 4 (v := ?_) rfl (by kernel_rfl) (by kernel_rfl) (by kernel_rfl) (fun _ _ _ h => h) (by assumption) ?_ ?_
  rotate_left
  · first | (refine Or.inr ⟨?_, ?_⟩ <;> rfl) | (refine Or.inl ⟨by rfl, ?_⟩; intro w hSw; (try dsimp only at hSw); first | (go_simp; done) | (go_simp; with_reducible rfl))
  try simp only [Act.put, List.setIfInBounds_toArray, List.set_cons_zero, List.set_cons_succ]
  refine held_take 7 (v := ?_) rfl (by kernel_rfl) (by kernel_rfl) (by kernel_rfl) (fun _ _ _ h => h) (by assumption) ?_ ?_
  rotate_left
  · first | (refine Or.inr ⟨?_, ?_⟩ <;> rfl) | (refine Or.inl ⟨by rfl, ?_⟩; intro w hSw; (try dsimp only at hSw); first | (go_simp; done) | (go_simp; with_reducible rfl))
  try simp only [Act.put, List.setIfInBounds_toArray, List.set_cons_zero, List.set_cons_succ]
  refine held_take 8 (v := ?_) rfl (by kernel_rfl) (by kernel_rfl) (by kernel_rfl) (fun _ _ _ h => h) (by assumption) ?_ ?_
  rotate_left
  · first | (refine Or.inr ⟨?_, ?_⟩ <;> rfl) | (refine Or.inl ⟨by rfl, ?_⟩; intro w hSw; (try dsimp only at hSw); first | (go_simp; done) | (go_simp; with_reducible rfl))
  try simp only [Act.put, List.setIfInBounds_toArray, List.set_cons_zero, List.set_cons_succ]
  refine held_call 5 rfl (by kernel_rfl) (fun K hK => ?_)
  go_simp
  with_reducible refine (s1 _).mono ?_
  rintro e w1 ⟨rfl, rfl⟩
  refine hK.out _ _ ?_ (fun hHeld => ?_)
  · first | exact hHeld | exact ⟨cell_keep' hHeld.1 hbk, cell_keep' hHeld.2.1 hbk, hHeld.2.2.1.keep hbk (Nat.le_refl _), bstep hHeld.2.2.2.1 hbk (Nat.le_refl _), Nat.le_trans hHeld.2.2.2.2.1 hbk.size, hHeld.2.2.2.2.2.imp fun _ => Exists.imp fun _ => Exists.imp fun _ h => h.keep hbk (Nat.le_refl _)⟩
  clear hK K
  try simp only [Act.put, List.setIfInBounds_toArray, List.set_cons_zero, List.set_cons_succ]
  refine held_call 6 rfl (by kernel_rfl) (fun K hK => ?_)
  go_simp
  with_reducible refine (from_any N hnl _).mono ?_
  rintro e w2 ⟨_, rfl, ⟨a2, c2, rfl, hs2⟩, hf2, hbk⟩
  have hb2 := hbk
  refine hK.out _ _ ?_ (fun hHeld => ?_)
  · first | exact hHeld | exact ⟨cell_keep' hHeld.1 hbk, cell_keep' hHeld.2.1 hbk, hHeld.2.2.1.keep hbk (Nat.le_refl _), bstep hHeld.2.2.2.1 hbk (Nat.le_refl _), Nat.le_trans hHeld.2.2.2.2.1 hbk.size, hHeld.2.2.2.2.2.imp fun _ => Exists.imp fun _ => Exists.imp fun _ h => h.keep hbk (Nat.le_refl _)⟩
  clear hK K
  try simp only [Act.put, List.setIfInBounds_toArray, List.set_cons_zero, List.set_cons_succ]
  refine held_call 9 rfl (by kernel_rfl) (fun K hK => ?_)
  go_simp
  with_reducible refine (s2 _).mono ?_
  rintro e w1 ⟨rfl, rfl⟩
  refine hK.out _ _ ?_ (fun hHeld => ?_)
  · first | exact hHeld | exact ⟨cell_keep' hHeld.1 hbk, cell_keep' hHeld.2.1 hbk, hHeld.2.2.1.keep hbk (Nat.le_refl _), bstep hHeld.2.2.2.1 hbk (Nat.le_refl _), Nat.le_trans hHeld.2.2.2.2.1 hbk.size, hHeld.2.2.2.2.2.imp fun _ => Exists.imp fun _ => Exists.imp fun _ h => h.keep hbk (Nat.le_refl _)⟩
  clear hK K
  try simp only [Act.put, List.setIfInBounds_toArray, List.set_cons_zero, List.set_cons_succ]
  refine held_call 10 rfl (by kernel_rfl) (fun K hK => ?_)
  go_simp
  with_reducible refine (from_any D hdl _).mono ?_
  rintro e w3 ⟨_, rfl, ⟨a3, c3, rfl, hs3⟩, hf3, hbk⟩
  have hb3 := hbk
  refine hK.out _ _ ?_ (fun hHeld => ?_)
  · first | exact hHeld | exact ⟨cell_keep' hHeld.1 hbk, cell_keep' hHeld.2.1 hbk, hHeld.2.2.1.keep hbk (Nat.le_refl _), bstep hHeld.2.2.2.1 hbk (Nat.le_refl _), Nat.le_trans hHeld.2.2.2.2.1 hbk.size, hHeld.2.2.2.2.2.imp fun _ => Exists.imp fun _ => Exists.imp fun _ h => h.keep hbk (Nat.le_refl _)⟩
  clear hK K
  try simp only [Act.put, List.setIfInBounds_toArray, List.set_cons_zero, List.set_cons_succ]
  refine held_take 11 (v := ?_) rfl (by kernel_rfl) (by kernel_rfl) (by kernel_rfl) (fun _ _ _ h => h) (by assumption) ?_ ?_
  rotate_left
  · first | (refine Or.inr ⟨?_, ?_⟩ <;> rfl) | (refine Or.inl ⟨by rfl, ?_⟩; intro w hSw; (try dsimp only at hSw); first | (go_simp; done) | (go_simp; with_reducible rfl))
  try simp only [Act.put, List.setIfInBounds_toArray, List.set_cons_zero, List.set_cons_succ]
  refine held_call 12 rfl (by kernel_rfl) (fun K hK => ?_)
  obtain ⟨q0, q1, q2, hq⟩ := hHeld.2.2.2.2.2
  obtain ⟨B, hB⟩ : ∃ B, B = w.heap.size := ⟨_, rfl⟩
  obtain ⟨y0, y1, y2, y3, y4, y5⟩ := hq.three
  have HS2 := Lib.hid (natV_set3 (NatV.keep (w := w1) ⟨a2, c2, rfl, hs2⟩ hb3) hq (.inl (FreshV.low hf2 (by simp [HSZ.out]))) (.bool (decide (n < 0))) (.slice a2 (digs N).length c2) (.slice a3 (digs D).length c3))
  have HS3 := Lib.hid (natV_set3 (w := w3) ⟨a3, c3, rfl, hs3⟩ hq (.inl (FreshV.low hf3 (by have h1 : W.heap.size ≤ w1.heap.size := hb2.size; have h2 := HSZ.out; omega))) (.bool (decide (n < 0))) (.slice a2 (digs N).length c2) (.slice a3 (digs D).length c3))
  have HQ := Lib.hid (hq.set3 (.bool (decide (n < 0))) (.slice a2 (digs N).length c2) (.slice a3 (digs D).length c3))
  have HBW := Lib.hid (below_set3 hHeld.2.2.2.1 (Nat.le_add_right w.heap.size 1) (.bool (decide (n < 0))) (.slice a2 (digs N).length c2) (.slice a3 (digs D).length c3))
  have HT := Lib.hid (hHeld.2.2.1.other3 (Nat.ne_of_gt (Nat.lt_succ_self w.heap.size)) (.bool (decide (n < 0))) (.slice a2 (digs N).length c2) (.slice a3 (digs D).length c3))
  go_simp
  refine hK.out _ _ ?_ (fun hHeld2 => ?_)
  · exact ⟨HT.out.two.1, HT.out.two.2.1, HT.out, HBW.out, by simpa using hHeld.2.2.2.2.1, _, _, _, HQ.out⟩
  clear hK K hHeld hHeld2 y0 y1 y2 y3 y4 y5 hs2 hs3 hq
  refine wpAnyH_done (by kernel_rfl) ?_ _
  obtain ⟨y0, y1, y2, y3, y4, y5⟩ := HQ.out.three
  go_wp2_with fail
  exact bodyPost_ret (v := .agg #[.bool (decide (n < 0)), .slice a2 (digs N).length c2, .slice a3 (digs D).length c3]) (by simp [results, Tryz.results124, go_sem, y0, y1, y2]) rfl ⟨_, rfl, ⟨_, _, rfl, HS2.out, HS3.out⟩, HBW.out⟩
end Go.Proofs.YtajebceanonalaaGreatDoor

namespace Go.Proofs.YtajebceanonalaaGreatDoor
set_option linter.unusedVariables false
open Go.RowKit

set_option maxRecDepth 100000 in
theorem is_nilE (n : Int) (w : World) :
    Calls Tryz.prog 64 #[.nilIface, .iface 36 (.int .i64 n)] w fun e w' => e = .returned (.bool false) ∧ w' = w := by
  have he : ∀ w : World, (binOp .eql 25 .nilIface (.iface 36 (.int .i64 n))).run Tryz.prog w = .ok (.bool false) w := fun w => by kernel_rfl
  go_enter Tryz.func64, Tryz.ntmps64
  go_wp2_with fail
  go_ret
  exact ⟨rfl, rfl⟩
theorem div_step {neg : Bool} {v j : Nat} {x y : Int} (h : frac neg v (10 ^ j) = some (x, y)) (w : World) :
    Calls Tryz.prog 46 #[.agg #[.int .i64 x, .int .i64 y], .agg #[.int .i64 10, .int .i64 1]] w fun e w' => e = .returned (ratV (frac neg v (10 ^ (j + 1)))) ∧ Below w.heap.size w w' := by
  have hr := frac_right (p10 j) h
  obtain ⟨r1, r2, r3, r4, r5⟩ := hr
  have hx : In64 x := ⟨r3, r4⟩
  have hy : In64 y := ⟨by omega, r2⟩
  have ha : rightB x y = true := (rightB_iff x y hx hy).2 ⟨r1, r2, r3, r4, r5⟩
  have hb : rightB 10 1 = true := by decide
  have hd := div_any x y 10 1 hx hy (by unfold In64; omega) (by unfold In64; omega) w
  have hs := frac_step (p10 j) h
  rw [Nat.pow_succ, ← hs]
  unfold divV at hd
  rw [ha, hb] at hd
  simpa using hd
theorem frac_zero10 {neg : Bool} {v : Nat} (h : v ≤ 1000000000000000000) : frac neg v (10 ^ 0) = some (sgn neg v, 1) := by
  rw [Nat.pow_zero, frac_one]
  unfold fitE
  by_cases h0 : v = 0
  · subst h0; rw [if_pos rfl]; cases neg <;> rfl
  · rw [if_neg h0, if_neg (by omega)]; rfl
theorem dec_le18 {v : Nat} (h : (Lib.decDigits v).length ≤ 18) : v < 1000000000000000000 := by
  obtain ⟨k, h1, h2, h3⟩ := dec_len v
  rw [h1, padD_len] at h
  exact Nat.lt_of_lt_of_le h2 (Nat.pow_le_pow_right (by decide) h)

set_option maxRecDepth 100000 in
set_option maxHeartbeats 4000000 in
theorem small_any (neg : Bool) (v back : Nat) (hv : 0 < v) (hz : v % 10 ≠ 0) (hlen : (Lib.decDigits v).length ≤ 200) (hback : back ≤ 100000) (w : World) :
    Calls Tryz.prog 22 #[.bool neg, .string ⟨(Lib.decDigits v).toArray⟩, .int .i64 back] w fun e w' => e = .returned (ratV (frac neg v (10 ^ back))) ∧ Below w.heap.size w w' := by
  obtain ⟨F, hF⟩ : ∃ F, F = frac neg v (10 ^ back) := ⟨_, rfl⟩
  rw [← hF]
  have HF := Lib.hid hF
  clear hF
  obtain ⟨tr, hsz, hbw⟩ := box1 w #[.int .i64 0, .int .i64 0] 23
  have TR := Lib.hid tr
  have HBW := Lib.hid hbw
  clear tr hbw
  have hvn : Lib.decDigits v ≠ [] := by intro h; have h3 := dec_valL v; rw [h] at h3; simp [valL, valS] at h3; omega
  have hdv := dec_valL v
  have hdd := dec_digL v
  by_cases hb62 : (62 : Int) < back
  · have HN := Lib.hid (show F = none by rw [HF.out]; exact frac_over_den hz (by omega))
    clear hdv hvn hdd
    go_enter Tryz.func22, Tryz.ntmps22
    go_wp2_with fail
    generalize w.alloc (.cells #[.int .i64 0, .int .i64 0] 23) = W at *
    obtain ⟨r0, r1, r2, r3⟩ := TR.out.two
    exact bodyPost_ret (v := .tuple #[.agg #[.int .i64 0, .int .i64 0], errV 9]) (by simp [results, Tryz.results22, go_sem, r0, r1, errV]) rfl ⟨by rw [HN.out]; rfl, HBW.out⟩
  by_cases h18 : (18 : Int) < (Lib.decDigits v).length
  · have cl := long_any neg v back hv (by omega) hlen
    rw [← HF.out] at cl
    clear hdv hvn hdd HF
    generalize Lib.decDigits v = L at *
    go_enter Tryz.func22, Tryz.ntmps22
    go_wp2_with fail
    generalize w.alloc (.cells #[.int .i64 0, .int .i64 0] 23) = W at *
    go_wp2_with fail
    with_reducible refine (cl _).mono ?_
    rintro e w2 ⟨rfl, hb2⟩
    clear cl
    have TR2 := Lib.hid (TR.out.keep hb2 (Nat.le_refl _))
    have HB2 := Lib.hid (show Below w.heap.size w w2 from bstep HBW.out hb2 (by omega))
    clear hb2
    obtain ⟨r0, r1, r2, r3⟩ := TR2.out.two
    rcases F with _ | ⟨x, y⟩
    · simp only [ratV, errV]
      go_wp2_with fail
      exact bodyPost_ret (v := .tuple #[.agg #[.int .i64 0, .int .i64 0], errV 9]) (by simp [results, Tryz.results22, go_sem, r0, r1, errV]) rfl ⟨rfl, (HB2.out.setCell (by simp) _).setCell (by simp) _⟩
    · simp only [ratV]
      go_wp2_with fail
      exact bodyPost_ret (v := .tuple #[.agg #[.int .i64 x, .int .i64 y], .nilIface]) (by simp [results, Tryz.results22, go_sem, r0, r1]) rfl ⟨rfl, (HB2.out.setCell (by simp) _).setCell (by simp) _⟩
  have hvlt : v < 1000000000000000000 := dec_le18 (by omega)
  have cp := Tryz.strconv_ParseInt_10_at64_ok ⟨(Lib.decDigits v).toArray⟩ (by show (Lib.decDigits v).length ≤ _; omega) (v : Int) (by
    show Lib.parseIntB 64 (Lib.decDigits v) = _
    have := pi_ok hdd hvn (by rw [hdv]; omega)
    rwa [hdv] at this)
  clear hdv hvn hdd
  generalize Lib.decDigits v = L at *
  go_enter Tryz.func22, Tryz.ntmps22
  go_wp2_with fail
  generalize w.alloc (.cells #[.int .i64 0, .int .i64 0] 23) = W at *
  go_wp2_with fail
  with_reducible refine (cp _).mono ?_
  rintro e w1 ⟨rfl, hb1⟩
  clear cp
  replace hb1 : Below W.heap.size W w1 := by
    rcases hb1 with rfl | ⟨t, rfl⟩
    · exact Below.refl _ _
    · exact Joins.below_bytesWorld _ _ _ _ (Nat.le_refl _)
  have TR1 := Lib.hid (TR.out.keep hb1 (Nat.le_refl _))
  have HB1 := Lib.hid (show Below w.heap.size w w1 from bstep HBW.out hb1 (by omega))
  have hs1 := Lib.hid (show w.heap.size + 1 ≤ w1.heap.size by have := hb1.size; omega)
  clear hb1 TR HBW hsz
  have HSG := Lib.hid (frac_zero10 (neg := neg) (v := v) (by omega))
  obtain ⟨x0, hx0⟩ : ∃ x0, x0 = sgn neg v := ⟨_, rfl⟩
  rw [← hx0] at HSG
  obtain ⟨ta, hsz, hbw⟩ := box1 w1 #[.int .i64 x0, .int .i64 1] 23
  have TA := Lib.hid ta
  have TR2 := Lib.hid (TR1.out.keep hbw (Nat.le_refl _))
  have HB2 := Lib.hid (show Below w.heap.size w (w1.alloc (.cells #[.int .i64 x0, .int .i64 1] 23)) from bstep HB1.out hbw (by have := hs1.out; omega))
  clear ta hbw TR1 HB1
  go_upto_if 31 with (fail)
  go_cut [8] (fun x ws => x = .int .i64 x0 ∧ ws = w1)
  case first =>
    cases neg
    · go_wp2_with fail
      go_meet
      case rel => exact ⟨by rw [hx0]; rfl, rfl⟩
    · go_wp2_with fail
      go_meet
      case rel => exact ⟨by rw [hx0]; rfl, rfl⟩
  case rest =>
    obtain ⟨rfl, rfl⟩ := hcut
    clear hx0
    go_upto_region 9 with fail
    generalize hA : wc.heap.size = A at *
    generalize wc.alloc (.cells #[.int .i64 x0, .int .i64 1] 23) = W2 at *
    clear hA
    go_loopw [2] (fun x ws => ∃ j k : Nat, ∃ x' y' : Int, x = .int .i64 (k : Nat) ∧ k + j = back ∧ frac neg v (10 ^ j) = some (x', y') ∧ Blk ws w.heap.size #[.int .i64 0, .int .i64 0] ∧ Blk ws A #[.int .i64 x', .int .i64 y'] ∧ Below w.heap.size w ws) (fun x _ => (intOf x).toNat)
    case atStart => exact ⟨0, back, x0, 1, rfl, by omega, HSG.out, TR2.out, TA.out, HB2.out⟩
    case round =>
      obtain ⟨j, k, x, y, rfl, hkj, hfr, tr, ta, hbw⟩ := hrel
      obtain ⟨a0, a1, a2, a3⟩ := ta.two
      clear HSG TR2 TA HB2
      by_cases hk : (0 : Int) < k
      · have cd := fun w => div_step hfr w
        have TR := Lib.hid tr
        have TA := Lib.hid ta
        have HB := Lib.hid hbw
        have hKJ := Lib.hid hkj
        clear tr ta hbw hkj
        have HNEXT := Lib.hid (fun (hn : frac neg v (10 ^ (j + 1)) = none) => show F = none by
          rw [HF.out]; exact frac_mono_le (by omega) (by omega) hn back (by have := hKJ.out; omega))
        obtain ⟨G, hG⟩ : ∃ G, G = frac neg v (10 ^ (j + 1)) := ⟨_, rfl⟩
        rw [← hG] at HNEXT cd
        have HG := Lib.hid hG
        clear hG hfr
        go_wp2_with fail
        with_reducible refine (cd _).mono ?_
        rintro e w3 ⟨rfl, hb3⟩
        clear cd a0 a1 a2 a3
        have TR3 := Lib.hid (TR.out.keep hb3 (Nat.le_refl _))
        have TA3 := Lib.hid (TA.out.keep hb3 (Nat.le_refl _))
        have HB3 := Lib.hid (show Below w.heap.size w w3 from bstep HB.out hb3 (by have := HB.out.size; omega))
        clear hb3 TR TA HB
        rcases G with _ | ⟨x2, y2⟩
        · have HN := Lib.hid (HNEXT.out rfl)
          obtain ⟨tb, hsz, hbb⟩ := box1 w3 #[.int .i64 0, .int .i64 0] 23
          have TR4 := Lib.hid (TR3.out.keep hbb (Nat.le_refl _))
          have HB4 := Lib.hid (show Below w.heap.size w (w3.alloc (.cells #[.int .i64 0, .int .i64 0] 23)) from bstep HB3.out hbb (by have := HB3.out.size; omega))
          clear tb hsz hbb
          obtain ⟨r0, r1, r2, r3⟩ := TR4.out.two
          have ci := is_errno 9 9
          rw [show ((9 : Int) == 9) = true from rfl] at ci
          simp only [ratV, errV]
          go_wp2_with fail
          generalize w3.alloc (.cells #[.int .i64 0, .int .i64 0] 23) = W4 at *
          with_reducible refine (ci _).mono ?_
          rintro e w5 ⟨rfl, rfl⟩
          clear ci
          go_wp2_with fail
          exact bodyPost_ret (v := .tuple #[.agg #[.int .i64 0, .int .i64 0], errV 9]) (by simp [results, Tryz.results22, go_sem, r0, r1, errV]) rfl ⟨by rw [HN.out]; rfl, (HB4.out.setCell (by simp) _).setCell (by simp) _⟩
        · obtain ⟨tb, hsz, hbb⟩ := box1 w3 #[.int .i64 x2, .int .i64 y2] 23
          have TR4 := Lib.hid (TR3.out.keep hbb (Nat.le_refl _))
          have TA4 := Lib.hid (TA3.out.keep hbb (Nat.le_refl _))
          have TB4 := Lib.hid tb
          have HB4 := Lib.hid (show Below w.heap.size w (w3.alloc (.cells #[.int .i64 x2, .int .i64 y2] 23)) from bstep HB3.out hbb (by have := HB3.out.size; omega))
          clear tb hsz hbb
          obtain ⟨a0, a1, a2, a3⟩ := TA4.out.two
          obtain ⟨b0, b1, b2, b3⟩ := TB4.out.two
          have ci := is_nilE 9
          obtain ⟨k2, rfl⟩ : ∃ k2, k = k2 + 1 := ⟨k - 1, by omega⟩
          have hk62 : (k2 : Int) ≤ 62 := by have := hKJ.out; omega
          have ht : ((k2 + 1 : Nat) : Int) - 1 = (k2 : Int) := by omega
          simp only [ratV]
          go_wp2_with fail
          generalize w3.alloc (.cells #[.int .i64 x2, .int .i64 y2] 23) = W4 at *
          with_reducible refine (ci _).mono ?_
          rintro e w5 ⟨rfl, rfl⟩
          clear ci
          go_wp2_with fail
          go_roundw
          case rel => exact ⟨j + 1, k2, x2, y2, by first | rfl | go_num, by have := hKJ.out; omega, HG.out.symm, (TR4.out.other (by have := hs1.out; show A ≠ w.heap.size; omega) _).other (by have := hs1.out; show A ≠ w.heap.size; omega) _, (TA4.out.set 0 _).set 1 _, (HB4.out.setCell (by have := hs1.out; show w.heap.size ≤ A; omega) _).setCell (by have := hs1.out; show w.heap.size ≤ A; omega) _⟩
          case measure => (simp [intOf] <;> omega)
      · obtain rfl : k = 0 := by omega
        obtain rfl : j = back := by omega
        have HN := Lib.hid (show F = some (x, y) by rw [HF.out, hfr])
        obtain ⟨r0, r1, r2, r3⟩ := tr.two
        have HB := Lib.hid hbw
        clear tr ta hbw hfr HF
        go_wp2_with fail
        exact bodyPost_ret (v := .tuple #[.agg #[.int .i64 x, .int .i64 y], .nilIface]) (by simp [results, Tryz.results22, go_sem, r0, r1]) rfl ⟨by rw [HN.out]; rfl, (HB.out.setCell (by simp) _).setCell (by simp) _⟩
end Go.Proofs.YtajebceanonalaaGreatDoor

namespace Go.Proofs.YtajebceanonalaaGreatDoor
set_option linter.unusedVariables false

structure RS where
  pt : Nat
  neg : Bool
  ds : List UInt8
  back : Nat
  pow : Nat
  down : Bool
def isSg (c : UInt8) : Bool := c == 43 || c == 45
def isEe (c : UInt8) : Bool := c == 101 || c == 69
def powS (n : Nat) (l : List UInt8) : Nat := l.foldl (fun n c => min (10 * n + (c.toNat - 48)) 1000) n
def powL (l : List UInt8) : Nat := powS 0 l
def headD : List UInt8 → Bool
  | [] => false
  | d :: _ => isDg d
def rstep (x : RS) (c : UInt8) (t : List UInt8) : Option RS :=
  if isSg c = true then
    if x.pt = 0 then (if headD t = true then some { x with neg := c == 45, pt := 1 } else none)
    else if x.pt = 4 then some { x with down := c == 45, pt := 5 } else none
  else if c = 46 then (if x.pt = 1 then some { x with pt := 2 } else none)
  else if isEe c = true then (if x.pt = 1 ∨ x.pt = 3 then some { x with pt := 4 } else none)
  else if isDg c = true then
    if 4 ≤ x.pt then some { x with pt := 6, pow := min (10 * x.pow + (c.toNat - 48)) 1000 }
    else if x.pt = 2 ∨ x.pt = 3 then some { x with pt := 3, back := x.back + 1, ds := x.ds ++ [c] }
    else some { x with pt := 1, ds := x.ds ++ [c] }
  else none
def rrun : RS → List UInt8 → Option RS
  | x, [] => some x
  | x, c :: t => match rstep x c t with | none => none | some y => rrun y t
def sgP (down : Bool) (n : Nat) : Int := if down then -(n : Int) else n
def rfin (x : RS) : Option (Bool × List UInt8 × Int) :=
  if x.pt = 1 ∨ x.pt = 3 ∨ x.pt = 6 then some (x.neg, x.ds, sgP x.down x.pow - x.back) else none
def rout (x : RS) (l : List UInt8) : Option (Bool × List UInt8 × Int) := (rrun x l).bind rfin
def readL (s : List UInt8) : Option (Bool × List UInt8 × Int) := rout ⟨0, false, [], 0, 0, false⟩ s
theorem rout_nil (x : RS) : rout x [] = rfin x := rfl
theorem rout_cons (x : RS) (c : UInt8) (t : List UInt8) : rout x (c :: t) = (rstep x c t).bind (fun y => rout y t) := by
  unfold rout
  rw [show rrun x (c :: t) = (match rstep x c t with | none => none | some y => rrun y t) from rfl]
  cases rstep x c t <;> rfl

/-! ### the cut -/
def cutS (s : List UInt8) : Bool × List UInt8 :=
  match s with
  | [] => (false, [])
  | c :: t => if isSg c = true then (c == 45, t) else (false, c :: t)
def tw (l : List UInt8) : List UInt8 := l.takeWhile isDg
def dw (l : List UInt8) : List UInt8 := l.dropWhile isDg
def cutE (s : List UInt8) : Option (Bool × List UInt8 × List UInt8) :=
  match s with
  | [] => some (false, [], [])
  | c :: t => if isEe c = true then (if tw (cutS t).2 = [] then none else some ((cutS t).1, tw (cutS t).2, dw (cutS t).2)) else some (false, [], c :: t)
def cutP (s : List UInt8) : Option (List UInt8 × List UInt8) :=
  match s with
  | [] => some ([], [])
  | c :: t => if c = 46 then (if tw t = [] then none else some (tw t, dw t)) else some ([], c :: t)
def outE (neg : Bool) (ds : List UInt8) (back : Nat) (s : List UInt8) : Option (Bool × List UInt8 × Int) :=
  match cutE s with
  | none => none
  | some (down, p, r) => if r = [] then some (neg, ds, sgP down (powL p) - back) else none
def cutL (s : List UInt8) : Option (Bool × Bool × List UInt8 × List UInt8 × List UInt8) :=
  if tw (cutS s).2 = [] then none else
  match cutP (dw (cutS s).2) with
  | none => none
  | some (b, r) => match cutE r with
    | none => none
    | some (down, p, q) => if q = [] then some ((cutS s).1, down, tw (cutS s).2, b, p) else none

theorem dg_not {c : UInt8} (h : isDg c = true) : isSg c = false ∧ c ≠ 46 ∧ isEe c = false := by
  obtain ⟨h1, h2⟩ := (isDg_iff c).1 h
  refine ⟨?_, ?_, ?_⟩
  · unfold isSg
    rw [Bool.or_eq_false_iff, beq_eq_false_iff_ne, beq_eq_false_iff_ne]
    constructor <;> (intro e; subst e; revert h1; decide)
  · intro e; subst e; revert h1; decide
  · unfold isEe
    rw [Bool.or_eq_false_iff, beq_eq_false_iff_ne, beq_eq_false_iff_ne]
    constructor <;> (intro e; subst e; revert h2; decide)
theorem sg_not {c : UInt8} (h : isSg c = true) : isDg c = false ∧ c ≠ 46 ∧ isEe c = false := by
  unfold isSg at h
  rw [Bool.or_eq_true, beq_iff_eq, beq_iff_eq] at h
  rcases h with rfl | rfl <;> decide
theorem ee_not {c : UInt8} (h : isEe c = true) : isDg c = false ∧ c ≠ 46 ∧ isSg c = false := by
  unfold isEe at h
  rw [Bool.or_eq_true, beq_iff_eq, beq_iff_eq] at h
  rcases h with rfl | rfl <;> decide
theorem tw_cons {c : UInt8} {t : List UInt8} (h : isDg c = true) : tw (c :: t) = c :: tw t := by unfold tw; rw [List.takeWhile_cons, if_pos h]
theorem tw_stop {c : UInt8} {t : List UInt8} (h : isDg c = false) : tw (c :: t) = [] := by unfold tw; rw [List.takeWhile_cons, h]; rfl
theorem dw_cons {c : UInt8} {t : List UInt8} (h : isDg c = true) : dw (c :: t) = dw t := by unfold dw; rw [List.dropWhile_cons, if_pos h]
theorem dw_stop {c : UInt8} {t : List UInt8} (h : isDg c = false) : dw (c :: t) = c :: t := by unfold dw; rw [List.dropWhile_cons, h]; rfl

theorem step_dg {x : RS} {c : UInt8} {t : List UInt8} (h : isDg c = true) : rstep x c t = (if 4 ≤ x.pt then some { x with pt := 6, pow := min (10 * x.pow + (c.toNat - 48)) 1000 }
    else if x.pt = 2 ∨ x.pt = 3 then some { x with pt := 3, back := x.back + 1, ds := x.ds ++ [c] }
    else some { x with pt := 1, ds := x.ds ++ [c] }) := by
  obtain ⟨h1, h2, h3⟩ := dg_not h
  unfold rstep
  rw [h1, if_neg (by decide), if_neg h2, h3, if_neg (by decide), if_pos h]
theorem step_none {x : RS} {c : UInt8} {t : List UInt8} (h : isDg c = false) (hs : isSg c = true → x.pt ≠ 0 ∧ x.pt ≠ 4) (hp : c = 46 → x.pt ≠ 1) (he : isEe c = true → x.pt ≠ 1 ∧ x.pt ≠ 3) : rstep x c t = none := by
  unfold rstep
  split
  · rename_i h1; rw [if_neg (hs h1).1, if_neg (hs h1).2]
  · split
    · rename_i h2; rw [if_neg (hp h2)]
    · split
      · rename_i h3; rw [if_neg (fun h => h.elim (he h3).1 (he h3).2)]
      · rw [h, if_neg (by decide)]

theorem powS_cons (n : Nat) (c : UInt8) (l : List UInt8) : powS n (c :: l) = powS (min (10 * n + (c.toNat - 48)) 1000) l := by unfold powS; rw [List.foldl_cons]
theorem r6 : ∀ (l : List UInt8) (x : RS), x.pt = 6 → rout x l = if dw l = [] then some (x.neg, x.ds, sgP x.down (powS x.pow (tw l)) - x.back) else none := by
  intro l
  induction l with
  | nil => intro x h; rw [rout_nil]; unfold rfin; rw [h]; rfl
  | cons c t ih =>
    intro x h
    rw [rout_cons]
    cases hc : isDg c
    · rw [step_none hc (by omega) (by omega) (by omega), dw_stop hc, if_neg (by simp)]; rfl
    · rw [step_dg hc, if_pos (by omega), dw_cons hc, tw_cons hc, powS_cons, Option.bind_some]
      rw [ih { x with pt := 6, pow := min (10 * x.pow + (c.toNat - 48)) 1000 } rfl]
theorem r5 (l : List UInt8) (x : RS) (h : x.pt = 5 ∨ (x.pt = 4 ∧ (cutS l).2 = l)) : rout x l = if tw l = [] then none else if dw l = [] then some (x.neg, x.ds, sgP x.down (powS x.pow (tw l)) - x.back) else none := by
  cases l with
  | nil => rw [rout_nil]; unfold rfin; rw [if_neg (by omega)]; rfl
  | cons c t =>
    rw [rout_cons]
    cases hc : isDg c
    · rw [step_none hc ?_ (by omega) (by omega), tw_stop hc, if_pos rfl]; rfl
      intro hs
      rcases h with h | ⟨h, h2⟩
      · omega
      · unfold cutS at h2
        simp only [hs, if_true] at h2
        exact absurd (congrArg List.length h2) (by simp)
    · rw [step_dg hc, if_pos (by omega), dw_cons hc, tw_cons hc, powS_cons, if_neg (by simp), Option.bind_some]
      rw [r6 t { x with pt := 6, pow := min (10 * x.pow + (c.toNat - 48)) 1000 } rfl]
theorem cutS_not {c : UInt8} {t : List UInt8} (h : isSg c = false) : cutS (c :: t) = (false, c :: t) := by unfold cutS; simp [h]
theorem cutS_sg {c : UInt8} {t : List UInt8} (h : isSg c = true) : cutS (c :: t) = (c == 45, t) := by unfold cutS; simp [h]
theorem r4 (l : List UInt8) (x : RS) (h : x.pt = 4) (hd : x.down = false) (hp : x.pow = 0) : rout x l = if tw (cutS l).2 = [] then none else if dw (cutS l).2 = [] then some (x.neg, x.ds, sgP (cutS l).1 (powL (tw (cutS l).2)) - x.back) else none := by
  cases l with
  | nil => rw [r5 _ _ (.inr ⟨h, rfl⟩)]; rfl
  | cons c t =>
    cases hs : isSg c
    · rw [r5 _ _ (.inr ⟨h, by rw [cutS_not hs]⟩), cutS_not hs, hd, hp]; rfl
    · rw [rout_cons, cutS_sg hs]
      unfold rstep
      rw [if_pos hs, if_neg (by omega), if_pos h]
      show rout _ t = _
      rw [r5 _ _ (.inl rfl), hp]; rfl
theorem outE_stop {neg : Bool} {ds : List UInt8} {back : Nat} {c : UInt8} {t : List UInt8} (h : isEe c = false) : outE neg ds back (c :: t) = none := by
  unfold outE cutE; simp [h]
theorem outE_e {neg : Bool} {ds : List UInt8} {back : Nat} {c : UInt8} {t : List UInt8} (h : isEe c = true) : outE neg ds back (c :: t) = if tw (cutS t).2 = [] then none else if dw (cutS t).2 = [] then some (neg, ds, sgP (cutS t).1 (powL (tw (cutS t).2)) - back) else none := by
  unfold outE cutE
  simp only [h, if_true]
  by_cases h1 : tw (cutS t).2 = []
  · simp [h1]
  · simp [h1]
theorem outE_nil {neg : Bool} {ds : List UInt8} {back : Nat} : outE neg ds back [] = some (neg, ds, 0 - (back : Int)) := rfl
theorem r3 : ∀ (l : List UInt8) (x : RS), x.pt = 3 → x.down = false → x.pow = 0 → rout x l = outE x.neg (x.ds ++ tw l) (x.back + (tw l).length) (dw l) := by
  intro l
  induction l with
  | nil =>
    intro x h hd hp
    rw [rout_nil]; unfold rfin; rw [if_pos (by omega), hd, hp]
    show _ = outE x.neg (x.ds ++ []) (x.back + 0) []
    rw [List.append_nil]; rfl
  | cons c t ih =>
    intro x h hd hp
    rw [rout_cons]
    cases hc : isDg c
    · rw [tw_stop hc, dw_stop hc, List.append_nil]
      cases he : isEe c
      · rw [step_none hc (by omega) (by omega) (by rw [he]; intro h; cases h), outE_stop he]; rfl
      · obtain ⟨_, q2, q3⟩ := ee_not he
        unfold rstep
        rw [q3, if_neg (by decide), if_neg q2, if_pos he, if_pos (.inr h), outE_e he]
        show rout _ t = _
        rw [r4 t { x with pt := 4 } rfl hd hp]; rfl
    · rw [step_dg hc, if_neg (by omega), if_pos (by omega), dw_cons hc, tw_cons hc]
      show rout _ t = _
      rw [ih { x with pt := 3, back := x.back + 1, ds := x.ds ++ [c] } rfl hd hp]
      show outE _ (x.ds ++ [c] ++ tw t) (x.back + 1 + (tw t).length) _ = _
      rw [List.append_assoc, List.length_cons, Nat.add_assoc, Nat.add_comm 1]; rfl
theorem r2 (l : List UInt8) (x : RS) (h : x.pt = 2) (hd : x.down = false) (hp : x.pow = 0) (hb : x.back = 0) : rout x l = if tw l = [] then none else outE x.neg (x.ds ++ tw l) (tw l).length (dw l) := by
  cases l with
  | nil => rw [rout_nil]; unfold rfin; rw [if_neg (by omega)]; rfl
  | cons c t =>
    rw [rout_cons]
    cases hc : isDg c
    · rw [step_none hc (by omega) (by omega) (by omega), tw_stop hc, if_pos rfl]; rfl
    · rw [step_dg hc, if_neg (by omega), if_pos (by omega), dw_cons hc, tw_cons hc, if_neg (by simp)]
      show rout _ t = _
      rw [r3 t { x with pt := 3, back := x.back + 1, ds := x.ds ++ [c] } rfl hd hp]
      show outE _ (x.ds ++ [c] ++ tw t) (x.back + 1 + (tw t).length) _ = _
      rw [List.append_assoc, List.length_cons, hb, Nat.zero_add, Nat.add_comm 1]; rfl
def outP (neg : Bool) (ds : List UInt8) (s : List UInt8) : Option (Bool × List UInt8 × Int) :=
  match cutP s with
  | none => none
  | some (b, r) => outE neg (ds ++ b) b.length r
theorem r1 : ∀ (l : List UInt8) (x : RS), x.pt = 1 → x.down = false → x.pow = 0 → x.back = 0 → rout x l = outP x.neg (x.ds ++ tw l) (dw l) := by
  intro l
  induction l with
  | nil =>
    intro x h hd hp hb
    rw [rout_nil]; unfold rfin; rw [if_pos (by omega), hd, hp, hb]
    show _ = outE x.neg (x.ds ++ [] ++ []) 0 []
    rw [List.append_nil, List.append_nil]; rfl
  | cons c t ih =>
    intro x h hd hp hb
    rw [rout_cons]
    cases hc : isDg c
    · rw [tw_stop hc, dw_stop hc, List.append_nil]
      by_cases hpt : c = 46
      · subst hpt
        have e1 : outP x.neg x.ds (46 :: t) = if tw t = [] then none else outE x.neg (x.ds ++ tw t) (tw t).length (dw t) := by
          unfold outP cutP
          simp only [if_true]
          by_cases h1 : tw t = []
          · simp [h1]
          · simp [h1]
        rw [e1]
        unfold rstep
        rw [if_neg (by decide), if_pos rfl, if_pos h]
        show rout _ t = _
        rw [r2 t { x with pt := 2 } rfl hd hp hb]
      · have e1 : outP x.neg x.ds (c :: t) = outE x.neg x.ds 0 (c :: t) := by
          unfold outP cutP
          simp [hpt]
        rw [e1]
        cases he : isEe c
        · rw [step_none hc (by omega) (fun h => absurd h hpt) (by rw [he]; intro h; cases h), outE_stop he]; rfl
        · obtain ⟨_, q2, q3⟩ := ee_not he
          unfold rstep
          rw [q3, if_neg (by decide), if_neg q2, if_pos he, if_pos (.inl h), outE_e he]
          show rout _ t = _
          rw [r4 t { x with pt := 4 } rfl hd hp]
          show (if tw (cutS t).2 = [] then none else if dw (cutS t).2 = [] then some (x.neg, x.ds, sgP (cutS t).1 (powL (tw (cutS t).2)) - (x.back : Int)) else none) = _
          rw [hb]
    · rw [step_dg hc, if_neg (by omega), if_neg (by omega), dw_cons hc, tw_cons hc]
      show rout _ t = _
      rw [ih { x with pt := 1, ds := x.ds ++ [c] } rfl hd hp hb]
      show outP _ (x.ds ++ [c] ++ tw t) _ = _
      rw [List.append_assoc]; rfl
theorem headD_tw (l : List UInt8) : headD l = true ↔ tw l ≠ [] := by
  cases l with
  | nil => simp [headD, tw]
  | cons c t =>
    cases hc : isDg c
    · rw [tw_stop hc]; simp [headD, hc]
    · rw [tw_cons hc]; simp [headD, hc]
theorem r0 (l : List UInt8) : readL l = if tw (cutS l).2 = [] then none else outP (cutS l).1 (tw (cutS l).2) (dw (cutS l).2) := by
  unfold readL
  cases l with
  | nil => rfl
  | cons c t =>
    cases hs : isSg c
    · rw [cutS_not hs]
      cases hc : isDg c
      · rw [rout_cons, step_none hc (by rw [hs]; intro h; cases h) (by intro _; decide) (by intro _; exact ⟨by decide, by decide⟩), if_pos (tw_stop hc)]; rfl
      · rw [rout_cons, step_dg hc, if_neg (by decide), if_neg (by decide), dw_cons hc, tw_cons hc, if_neg (by simp)]
        show rout _ t = _
        rw [r1 _ _ rfl rfl rfl rfl]; rfl
    · rw [cutS_sg hs, rout_cons]
      unfold rstep
      rw [if_pos hs, if_pos rfl]
      by_cases h1 : headD t = true
      · rw [if_pos h1, if_neg ((headD_tw t).1 h1)]
        show rout _ t = _
        rw [r1 _ _ rfl rfl rfl rfl]; rfl
      · rw [if_neg h1, if_pos (Decidable.byContradiction fun h => h1 ((headD_tw t).2 h))]; rfl
theorem read_cut (s : List UInt8) : readL s = (cutL s).map (fun p => (p.1, p.2.2.1 ++ p.2.2.2.1, sgP p.2.1 (powL p.2.2.2.2) - (p.2.2.2.1.length : Int))) := by
  rw [r0]
  unfold cutL
  by_cases h : tw (cutS s).2 = []
  · rw [if_pos h, if_pos h]; rfl
  · rw [if_neg h, if_neg h]
    unfold outP
    cases cutP (dw (cutS s).2) with
    | none => rfl
    | some br =>
      obtain ⟨b, r⟩ := br
      simp only
      unfold outE
      cases cutE r with
      | none => rfl
      | some d =>
        obtain ⟨down, p, q⟩ := d
        simp only
        by_cases hq : q = []
        · rw [if_pos hq, if_pos hq]; rfl
        · rw [if_neg hq, if_neg hq]; rfl
end Go.Proofs.YtajebceanonalaaGreatDoor
