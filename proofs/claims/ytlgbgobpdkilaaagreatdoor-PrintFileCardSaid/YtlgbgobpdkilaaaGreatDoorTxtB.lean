/-
  The reference's decimal: contract.
-/
import Derived.Test.YtlgbgobpdkilaaaGreatDoorTxtA
import Derived.Laws.IdiomStrings
namespace Go.Proofs.YtlgbgobpdkilaaaGreatDoor
set_option linter.unusedVariables false
open Go.RowKit

theorem conv_one (w : World) (c : UInt8) : (convert 95 9 (.slice (some ⟨w.heap.size, 0, none⟩) 1 1)).run Tryz.prog (w.alloc (.cells #[.int .u8 c.toNat] 5)) = .ok (.string ⟨#[c]⟩) (w.alloc (.cells #[.int .u8 c.toNat] 5)) := by
  have hs := SlOf.lit w enByte 1 (fun _ => rfl) [c] #[.int .u8 c.toNat] 5 1 rfl rfl (by decide)
  exact run_convert_bytes_back _ 95 9 5 ⟨w.heap.size, 0, none⟩ 1 [c] Tryz.underlying95 Tryz.underlying5 Tryz.underlying9 fun j hj => by
    obtain ⟨b, o, e1, _, hc⟩ := SlOf.cell1 hs (fun x : UInt8 => .int .u8 (x.toNat : Int)) (fun _ => rfl) hj
    cases e1
    rw [Addr.add_lit]
    exact hc
theorem str_cons (c : UInt8) (l : List UInt8) : (⟨#[c]⟩ : ByteArray) ++ ⟨l.toArray⟩ = ⟨(c :: l).toArray⟩ := strA [c] l
theorem digs_dec {n i : Nat} (h : n / 10 ^ i ≠ 0) : i ≤ 10 * (digs n).length := by
  have h1 : n < 4294967296 ^ (digs n).length := (digs_len n _).1 (Nat.le_refl _)
  have h2 : 4294967296 ^ (digs n).length ≤ 10 ^ (10 * (digs n).length) := by
    rw [Nat.pow_mul]
    exact Nat.pow_le_pow_left (by decide) _
  have h3 : 10 ^ i ≤ n := by
    rcases Nat.lt_or_ge n (10 ^ i) with h4 | h4
    · rw [Nat.div_eq_of_lt h4] at h; exact absurd rfl h
    · exact h4
  have h5 := (Nat.pow_lt_pow_iff_right (by decide : 1 < 10)).1 (Nat.lt_of_le_of_lt h3 (Nat.lt_of_lt_of_le h1 h2))
  omega

set_option maxRecDepth 100000 in
set_option maxHeartbeats 4000000 in
theorem decimal_any (n : Nat) (a : Option Addr) (ca : Nat) (hn : (digs n).length ≤ 1000) (w : World) (hs : SlD w a ca (digs n)) :
    Calls Tryz.prog 149 #[.slice a (digs n).length ca] w fun e w' => e = .returned (.string ⟨(Lib.decDigits n).toArray⟩) ∧ Below w.heap.size w w' := by
  have cf10 : ∀ w, Calls Tryz.prog 165 #[.int .u64 10] w (RetNat w 10) := fun w => from_any 10 (by decide) w
  have HS := Lib.hid (show NatV w (.slice a (digs n).length ca) n from ⟨a, ca, rfl, hs⟩)
  clear hs
  generalize hM : (digs n).length = M at *
  have HM := Lib.hid hM
  clear hM
  go_enter Tryz.func149, Tryz.ntmps149
  go_wp2_with fail
  go_loopw [0, 3, 5] (fun va vs vi wr => ∃ i : Nat, vi = .int .i64 (i : Nat) ∧ vs = .string ⟨(padD i n).toArray⟩ ∧ NatV wr va (n / 10 ^ i) ∧ i ≤ 10 * M + 1 ∧ n / 10 ^ (i - 1) * i ≥ (if i = 1 then 0 else i) ∧ Below w.heap.size w wr) (fun _ _ vi _ => 10 * M + 1 - (intOf vi).toNat)
  case atStart => exact ⟨0, rfl, rfl, by simpa using HS.out, Nat.zero_le _, by simp, Below.refl _ _⟩
  case round =>
    obtain ⟨i, rfl, rfl, ⟨a1, c1, rfl, hs1⟩, hi, hprev, hb⟩ := hrel
    have HPREV := Lib.hid hprev
    clear hprev
    have hlN : (digs (n / 10 ^ i)).length ≤ 1000 := by
      have h1 : n < 4294967296 ^ (digs n).length := (digs_len n _).1 (Nat.le_refl _)
      exact Nat.le_trans ((digs_len _ (digs n).length).2 (Nat.lt_of_le_of_lt (Nat.div_le_self _ _) h1)) (by rw [HM.out]; exact hn)
    have HDD := Lib.hid (fun h => digs_dec (n := n) (i := i) h)
    have HPAD := Lib.hid (show padD (i + 1) n = dgt (n / 10 ^ i) :: padD i n from rfl)
    have HDIV := Lib.hid (show n / 10 ^ i / 10 = n / 10 ^ (i + 1) by rw [Nat.div_div_eq_div_mul, Nat.pow_succ])
    have hl0 : (digs (n / 10 ^ i)).length = 0 ↔ n / 10 ^ i = 0 := by rw [List.length_eq_zero_iff, digs_nil]
    generalize hN : n / 10 ^ i = N at *
    have HN := Lib.hid hN.symm
    clear hN
    by_cases hgo : N = 0 ∧ i ≠ 0
    · have hl : (digs N).length = 0 := hl0.2 hgo.1
      have hi0 : ((i : Int) == 0) = false := by rw [beq_eq_false_iff_ne]; omega
      have hE : padD i n = Lib.decDigits n := by
        obtain ⟨j, rfl⟩ : ∃ j, i = j + 1 := ⟨i - 1, by omega⟩
        refine (dec_pad j n ?_ ?_).symm
        · have h1 := HN.out
          rw [hgo.1] at h1
          rcases Nat.lt_or_ge n (10 ^ (j + 1)) with h2 | h2
          · exact h2
          · have := Nat.div_pos h2 (Nat.pow_pos (by decide)); omega
        · by_cases hj : j = 0
          · exact .inl hj
          · right
            have h1 := HPREV.out
            rw [if_neg (by omega)] at h1
            simp only [Nat.add_sub_cancel] at h1
            rcases Nat.lt_or_ge n (10 ^ j) with h2 | h2
            · rw [Nat.div_eq_of_lt h2] at h1; omega
            · exact h2
      have HE := Lib.hid hE
      rw [hl] at *
      clear hl hl0 hs1 hlN hgo hE
      by_cases hle : (i : Int) ≤ 10 * (M : Int)
      · go_wp2_with fail
        go_ret
        exact ⟨by rw [← HE.out]; rfl, hb⟩
      · go_wp2_with fail
        go_ret
        exact ⟨by rw [← HE.out]; rfl, hb⟩
    · have hile : (i : Int) ≤ 10 * (M : Int) := by
        rcases Nat.eq_zero_or_pos i with h0 | h0
        · subst h0; omega
        · have h1 : N ≠ 0 := fun h => hgo ⟨h, by omega⟩
          have h2 := HDD.out h1
          rw [HM.out] at h2
          omega
      have hd : N % 10 < 10 := Nat.mod_lt _ (by decide)
      have HNEXT := Lib.hid (show n / 10 ^ (i + 1 - 1) * (i + 1) ≥ (if i + 1 = 1 then 0 else i + 1) by
        rw [Nat.add_sub_cancel, ← HN.out]
        by_cases h0 : i = 0
        · subst h0; simp
        · rw [if_neg (by omega)]
          have h1 : N ≠ 0 := fun h => hgo ⟨h, h0⟩
          exact Nat.le_mul_of_pos_left _ (by omega))
      have HDG := Lib.hid (show IntKind.u8.wrap (48 + ((N % 10 : Nat) : Int)) = (((dgt N).toNat : Nat) : Int) by
        unfold dgt IntKind.wrap
        simp [IntKind.bits, IntKind.signed])
      have HQ := Lib.hid (show NatV wr (.slice a1 (digs N).length c1) N from ⟨a1, c1, rfl, hs1⟩)
      have hdm : N % 10 % 18446744073709551616 = N % 10 := Nat.mod_eq_of_lt (by omega)
      have cdv := fun w' a2 c2 (h : Below wr.heap.size wr w') (h2 : SlD w' a2 c2 (digs 10)) => divided_any N 10 (by decide) a1 a2 c1 c2 (by omega) (by have := digs1 (n := 10) (by decide); omega) w' (hs1.keep h (Nat.le_refl _)) h2
      have hpl : ¬ 9223372036854775807 < 1 + (padD i n).length := by rw [padD_len]; omega
      clear hlN hs1
      generalize (digs N).length = l1 at *
      by_cases hz : N = 0
      · clear hpl
        obtain rfl : i = 0 := by
          by_cases h : i = 0
          · exact h
          · exact absurd ⟨hz, h⟩ hgo
        obtain rfl : l1 = 0 := hl0.2 hz
        clear hl0 hgo hz
        go_wp2_with fail
        with_reducible refine (cf10 _).mono ?_
        rintro e w2 ⟨_, rfl, ⟨a2, c2, rfl, hs2⟩, _, hb2⟩
        have HB := Lib.hid (bstep hb hb2 (Nat.le_refl _))
        replace cdv := cdv w2 a2 c2 hb2 hs2
        clear hs2 hb hb2
        go_wp2_with fail
        with_reducible refine cdv.mono ?_
        rintro e w3 ⟨v3, u3, rfl, ⟨a3, c3, rfl, hs3⟩, ⟨a4, c4, rfl, hs4⟩, hb3⟩
        have cw := word_any (N % 10) a4 c4 w3 hs4
        rw [hdm] at cw
        replace HB := Lib.hid (bstep HB.out hb3 (Nat.le_refl _))
        have HN3 := Lib.hid (show NatV w3 (.slice a3 (digs (N / 10)).length c3) (n / 10 ^ (0 + 1)) by rw [← HDIV.out]; exact ⟨a3, c3, rfl, hs3⟩)
        clear cdv hs3 hs4 hb3
        generalize (digs (N / 10)).length = l3 at *
        generalize (digs (N % 10)).length = l4 at *
        generalize hdd : N % 10 = d at *
        go_wp2_with fail
        with_reducible refine cw.mono ?_
        rintro e w4 ⟨rfl, rfl⟩
        clear cw
        have hdg := HDG.out
        obtain ⟨cb, hcb⟩ : ∃ c, c = dgt N := ⟨_, rfl⟩
        rw [← hcb] at hdg
        have hcv := conv_one w4 cb
        have hst := str_cons cb (padD 0 n)
        have HPD := Lib.hid (show padD (0 + 1) n = cb :: padD 0 n by rw [HPAD.out, hcb])
        have HBE := Lib.hid (bstep HB.out ((Below.refl w4.heap.size w4).alloc (Nat.le_refl _) (.cells #[.int .u8 cb.toNat] 5)) (Nat.le_refl _))
        have HN4 := Lib.hid (HN3.out.keep ((Below.refl w4.heap.size w4).alloc (Nat.le_refl _) (.cells #[.int .u8 cb.toNat] 5)))
        clear hcb hdd hdm
        go_wp2_with fail
        go_roundw
        case rel => exact ⟨0 + 1, by go_num, by rw [HPD.out], HN4.out, by omega, HNEXT.out, HBE.out⟩
        case measure => simp [intOf]
      · have hlp : (0 : Int) < (l1 : Int) := by
          have : l1 ≠ 0 := fun h => hz (hl0.1 h)
          omega
        clear hl0 hgo hz
        go_wp2_with fail
        with_reducible refine (cf10 _).mono ?_
        rintro e w2 ⟨_, rfl, ⟨a2, c2, rfl, hs2⟩, _, hb2⟩
        have HB := Lib.hid (bstep hb hb2 (Nat.le_refl _))
        replace cdv := cdv w2 a2 c2 hb2 hs2
        clear hs2 hb hb2
        go_wp2_with fail
        with_reducible refine cdv.mono ?_
        rintro e w3 ⟨v3, u3, rfl, ⟨a3, c3, rfl, hs3⟩, ⟨a4, c4, rfl, hs4⟩, hb3⟩
        have cw := word_any (N % 10) a4 c4 w3 hs4
        rw [hdm] at cw
        replace HB := Lib.hid (bstep HB.out hb3 (Nat.le_refl _))
        have HN3 := Lib.hid (show NatV w3 (.slice a3 (digs (N / 10)).length c3) (n / 10 ^ (i + 1)) by rw [← HDIV.out]; exact ⟨a3, c3, rfl, hs3⟩)
        clear cdv hs3 hs4 hb3
        generalize (digs (N / 10)).length = l3 at *
        generalize (digs (N % 10)).length = l4 at *
        generalize hdd : N % 10 = d at *
        go_wp2_with fail
        with_reducible refine cw.mono ?_
        rintro e w4 ⟨rfl, rfl⟩
        clear cw
        have hdg := HDG.out
        obtain ⟨cb, hcb⟩ : ∃ c, c = dgt N := ⟨_, rfl⟩
        rw [← hcb] at hdg
        have hcv := conv_one w4 cb
        have hst := str_cons cb (padD i n)
        have HPD := Lib.hid (show padD (i + 1) n = cb :: padD i n by rw [HPAD.out, hcb])
        have HBE := Lib.hid (bstep HB.out ((Below.refl w4.heap.size w4).alloc (Nat.le_refl _) (.cells #[.int .u8 cb.toNat] 5)) (Nat.le_refl _))
        have HN4 := Lib.hid (HN3.out.keep ((Below.refl w4.heap.size w4).alloc (Nat.le_refl _) (.cells #[.int .u8 cb.toNat] 5)))
        clear hcb hdd hdm
        go_wp2_with fail
        go_roundw
        case rel => exact ⟨i + 1, by go_num, by rw [HPD.out], HN4.out, by omega, HNEXT.out, HBE.out⟩
        case measure => simp [intOf]; omega
end Go.Proofs.YtlgbgobpdkilaaaGreatDoor
