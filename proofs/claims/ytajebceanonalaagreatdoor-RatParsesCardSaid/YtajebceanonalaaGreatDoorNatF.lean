/-
  The reference's natural numbers: contract of common. (It may stop early, at numbers whose quotient doesn't fit any more: then it hands back a multiple of the divisor.)
-/
import Derived.Test.YtajebceanonalaaGreatDoorNatE
namespace Go.Proofs.YtajebceanonalaaGreatDoor
set_option linter.unusedVariables false
open Go.RowKit

/-- the greatest common divisor, or one that is too great by far -/
def ComOK (m n p : Nat) : Prop := p = Nat.gcd m n ∨ (0 < p ∧ Nat.gcd m n ∣ p ∧ p * 18446744073709551616 ≤ n)
structure ComS (m n i p q : Nat) : Prop where
  gcd : Nat.gcd p q = Nat.gcd m n
  size : 1 ≤ i → q < p ∧ p * 2 ^ ((i - 1) / 2) ≤ n ∧ q * 2 ^ (i / 2) ≤ n
  first : i = 0 → p = m ∧ q = n
theorem comS_step {m n i p q : Nat} (h : ComS m n i p q) (hq : 0 < q) : ComS m n (i + 1) q (p % q) := by
  have hlt := Nat.mod_lt p hq
  refine ⟨?_, fun _ => ⟨hlt, ?_, ?_⟩, fun h0 => by omega⟩
  · rw [← h.gcd, Nat.gcd_comm p q, Nat.gcd_rec q p, Nat.gcd_comm]
  · rw [Nat.add_sub_cancel]
    rcases Nat.eq_zero_or_pos i with h0 | h0
    · subst h0
      obtain ⟨rfl, rfl⟩ := h.first rfl
      simp
    · exact (h.size h0).2.2
  · rcases Nat.eq_zero_or_pos i with h0 | h0
    · subst h0
      obtain ⟨rfl, rfl⟩ := h.first rfl
      simp
      omega
    · obtain ⟨h1, h2, h3⟩ := h.size h0
      have e : (i + 1) / 2 = (i - 1) / 2 + 1 := by omega
      have h4 : p % q * 2 ≤ p := by
        have h5 := Nat.div_add_mod p q
        have h6 : 1 ≤ p / q := (Nat.le_div_iff_mul_le hq).2 (by omega)
        have h7 := Nat.mul_le_mul_left q h6
        omega
      rw [e, Nat.pow_succ, Nat.mul_comm (2 ^ _) 2, ← Nat.mul_assoc]
      exact Nat.le_trans (Nat.mul_le_mul_right _ h4) h2
theorem comS_end {m n i p : Nat} (h : ComS m n i p 0) : ComOK m n p := .inl (by rw [← h.gcd, Nat.gcd_zero_right])
theorem comS_early {m n i p q : Nat} (h : ComS m n i p q) (hq : 0 < q) (hi : 64 * ((digs p).length + (digs q).length) + 2 ≤ i) : ComOK m n p := by
  have hql : 1 ≤ (digs q).length := by
    rcases Nat.eq_zero_or_pos (digs q).length with h0 | h0
    · have := (digs_len q 0).1 (by omega); simp at this; omega
    · exact h0
  obtain ⟨h1, h2, h3⟩ := h.size (by omega)
  have hpl : 1 ≤ (digs p).length := by
    rcases Nat.eq_zero_or_pos (digs p).length with h0 | h0
    · have := (digs_len p 0).1 (by omega); simp at this; omega
    · exact h0
  refine .inr ⟨by omega, by rw [← h.gcd]; exact Nat.gcd_dvd_left p q, ?_⟩
  have h4 : (2 : Nat) ^ 64 ≤ 2 ^ ((i - 1) / 2) := Nat.pow_le_pow_right (by decide) (by omega)
  have e : (2 : Nat) ^ 64 = 18446744073709551616 := by decide +kernel
  rw [e] at h4
  exact Nat.le_trans (Nat.mul_le_mul_left p h4) h2

def ComAt (m n g : Nat) (w wr : World) (x y i : Value) : Prop := ∃ p q k : Nat, g = q ∧ NatV wr x p ∧ NatV wr y q ∧ i = .int .i64 (k : Nat) ∧ ComS m n k p q ∧ (digs p).length ≤ 100000 ∧ (digs q).length ≤ 100000 ∧ k ≤ 64 * 200000 + 2 ∧ Below w.heap.size w wr
def RetCom (w : World) (m n : Nat) (e : Ending) (w' : World) : Prop := ∃ v p, e = .returned v ∧ NatV w' v p ∧ ComOK m n p ∧ (digs p).length ≤ 100000 ∧ Below w.heap.size w w'

set_option maxRecDepth 100000 in
set_option maxHeartbeats 4000000 in
theorem common_any (m n : Nat) (a b : Option Addr) (ca cb : Nat) (hm : (digs m).length ≤ 100000) (hn : (digs n).length ≤ 100000) (w : World) (hs : SlD w a ca (digs m)) (ht : SlD w b cb (digs n)) :
    Calls Tryz.prog 68 #[.slice a (digs m).length ca, .slice b (digs n).length cb] w (RetCom w m n) := by
  have HS := Lib.hid (show NatV w (.slice a (digs m).length ca) m from ⟨a, ca, rfl, hs⟩)
  have HT := Lib.hid (show NatV w (.slice b (digs n).length cb) n from ⟨b, cb, rfl, ht⟩)
  clear hs ht
  go_enter Tryz.func68, Tryz.ntmps68
  go_wp2_with fail
  go_loopg [0, 1, 5] n (fun g x y i wr => ComAt m n g w wr x y i)
  case atStart => exact ⟨m, n, 0, rfl, HS.out, HT.out, rfl, ⟨rfl, fun h => by omega, fun _ => ⟨rfl, rfl⟩⟩, hm, hn, by omega, Below.refl _ _⟩
  case round =>
    obtain ⟨p, q, k, hg, ⟨ap, cp, rfl, hsp⟩, ⟨aq, cq, rfl, hsq⟩, rfl, hc, hlp, hlq, hk, hb⟩ := hrel
    obtain ⟨gq, hgq⟩ : ∃ x, x = gk := ⟨_, rfl⟩
    subst hgq
    have HG := Lib.hid hg
    have HC := Lib.hid hc
    clear hg hc
    have hq0 : (digs q).length = 0 ↔ q = 0 := by rw [List.length_eq_zero_iff, digs_nil]
    have HNP := Lib.hid (show NatV wr (.slice ap (digs p).length cp) p from ⟨ap, cp, rfl, hsp⟩)
    have HNQ := Lib.hid (show NatV wr (.slice aq (digs q).length cq) q from ⟨aq, cq, rfl, hsq⟩)
    have HEARLY := Lib.hid (fun hq hi => comS_early HC.out (q := q) hq hi)
    by_cases hz : q = 0
    · have hl0 : (digs q).length = 0 := hq0.2 hz
      have HE := Lib.hid (show ComOK m n p by subst hz; exact comS_end HC.out)
      rw [hl0] at *
      clear hq0 hl0 hz hsp hsq HC HEARLY HG HS HT hm hn
      generalize hlpe : (digs p).length = lp at *
      have HLP := Lib.hid hlpe
      clear hlpe
      by_cases hlim : (k : Int) < 64 * (lp : Int) + 2
      · go_wp2_with fail
        go_ret
        exact ⟨_, p, rfl, HNP.out, HE.out, by rw [HLP.out]; exact hlp, hb⟩
      · go_wp2_with fail
        go_ret
        exact ⟨_, p, rfl, HNP.out, HE.out, by rw [HLP.out]; exact hlp, hb⟩
    · have hql : 0 < (digs q).length := by omega
      have cdv := divided_any p q (by omega) ap aq cp cq hlp hlq wr hsp hsq
      have HST := Lib.hid (comS_step HC.out (show 0 < q by omega))
      have hml : (digs (p % q)).length ≤ (digs q).length := (digs_len _ _).2 (Nat.lt_of_lt_of_le (Nat.mod_lt p (by omega)) (Nat.le_of_lt ((digs_len q _).1 (Nat.le_refl _))))
      have HML := Lib.hid (show (digs (p % q)).length ≤ 100000 by omega)
      have HLT := Lib.hid (Nat.mod_lt p (show 0 < q by omega))
      have hq1 : 0 < q := by omega
      have HQ1 := Lib.hid hq1
      clear hq0 hz hsp hsq HC hml hq1 HS HT hm hn
      generalize hlpe : (digs p).length = lp at *
      generalize hlqe : (digs q).length = lq at *
      have HLP := Lib.hid hlpe
      have HLQ := Lib.hid hlqe
      clear hlpe hlqe
      by_cases hlim : (k : Int) < 64 * ((lp : Int) + (lq : Int)) + 2
      · have hq2 : (0 : Int) < lq := by omega
        go_wp2_with fail
        with_reducible refine cdv.mono ?_
        rintro e w1 ⟨v, u, rfl, hnv, hnu, hb1⟩
        have HNU := Lib.hid hnu
        have HNQ1 := Lib.hid (HNQ.out.keep hb1)
        have HB1 := Lib.hid (bstep hb hb1 (Nat.le_refl _))
        clear hnv hnu hb1 cdv
        go_wp2_with fail
        go_roundg (p % q)
        case measure => rw [HG.out]; exact HLT.out
        case rel => exact ⟨q, p % q, k + 1, rfl, HNQ1.out, HNU.out, by go_num, HST.out, by rw [HLQ.out]; exact hlq, HML.out, by omega, HB1.out⟩
      · have HE := Lib.hid (HEARLY.out HQ1.out (by omega))
        clear cdv
        go_wp2_with fail
        go_ret
        exact ⟨_, p, rfl, HNP.out, HE.out, by rw [HLP.out]; exact hlp, hb⟩
end Go.Proofs.YtajebceanonalaaGreatDoor
