/-
  The reference's size, Right, New: contracts.
-/
import Derived.Test.YtlgbgobpdkilaaaGreatDoorNatT
import Derived.Test.YtlgbgobpdkilaaaGreatDoorRatD
import Derived.Test.YtlgbgobpdkilaaaGreatDoorBaseD
import Derived.Test.YtlgbgobpdkilaaaGreatDoorBaseC
import Derived.Deep.RegionHeld3

namespace Go.Proofs.YtlgbgobpdkilaaaGreatDoor
set_option linter.unusedVariables false
open Go.RowKit

/-- the greatest common divisor, or one that is too great by far -/
def ComOK (m n p : Nat) : Prop := p = Nat.gcd m n ∨ (0 < p ∧ Nat.gcd m n ∣ p ∧ p * 18446744073709551616 ≤ n)
structure ComS (m n i p q : Nat) : Prop where
  gcd : Nat.gcd p q = Nat.gcd m n
  size : 1 ≤ i → q < p ∧ p * 2 ^ ((i - 1) / 2) ≤ n ∧ q * 2 ^ (i / 2) ≤ n
  first : i = 0 → p = m ∧ q = n
theorem comS_step {m n i p q : Nat} (h : ComS m n i p q) (hq : 0 < q) : ComS m n (i + 1) q (p % q) := by
  have hlt := Nat.mod_lt p hq
  refine ⟨?_, fun _ => ⟨hlt, ?_, ?_⟩, fun h0 => by omega⟩
  · rw [← h.gcd, Nat.gcd_comm p q, Nat.gcd_rec q p, Nat.gcd_comm]
  · rw [Nat.add_sub_cancel]
    rcases Nat.eq_zero_or_pos i with h0 | h0
    · subst h0
      obtain ⟨rfl, rfl⟩ := h.first rfl
      simp
    · exact (h.size h0).2.2
  · rcases Nat.eq_zero_or_pos i with h0 | h0
    · subst h0
      obtain ⟨rfl, rfl⟩ := h.first rfl
      simp
      omega
    · obtain ⟨h1, h2, h3⟩ := h.size h0
      have e : (i + 1) / 2 = (i - 1) / 2 + 1 := by omega
      have h4 : p % q * 2 ≤ p := by
        have h5 := Nat.div_add_mod p q
        have h6 : 1 ≤ p / q := (Nat.le_div_iff_mul_le hq).2 (by omega)
        have h7 := Nat.mul_le_mul_left q h6
        omega
      rw [e, Nat.pow_succ, Nat.mul_comm (2 ^ _) 2, ← Nat.mul_assoc]
      exact Nat.le_trans (Nat.mul_le_mul_right _ h4) h2
theorem comS_end {m n i p : Nat} (h : ComS m n i p 0) : ComOK m n p := .inl (by rw [← h.gcd, Nat.gcd_zero_right])
theorem comS_early {m n i p q : Nat} (h : ComS m n i p q) (hq : 0 < q) (hi : 64 * ((digs p).length + (digs q).length) + 2 ≤ i) : ComOK m n p := by
  have hql : 1 ≤ (digs q).length := by
    rcases Nat.eq_zero_or_pos (digs q).length with h0 | h0
    · have := (digs_len q 0).1 (by omega); simp at this; omega
    · exact h0
  obtain ⟨h1, h2, h3⟩ := h.size (by omega)
  have hpl : 1 ≤ (digs p).length := by
    rcases Nat.eq_zero_or_pos (digs p).length with h0 | h0
    · have := (digs_len p 0).1 (by omega); simp at this; omega
    · exact h0
  refine .inr ⟨by omega, by rw [← h.gcd]; exact Nat.gcd_dvd_left p q, ?_⟩
  have h4 : (2 : Nat) ^ 64 ≤ 2 ^ ((i - 1) / 2) := Nat.pow_le_pow_right (by decide) (by omega)
  have e : (2 : Nat) ^ 64 = 18446744073709551616 := by decide +kernel
  rw [e] at h4
  exact Nat.le_trans (Nat.mul_le_mul_left p h4) h2

def ComAt (m n g : Nat) (w wr : World) (x y i : Value) : Prop := ∃ p q k : Nat, g = q ∧ NatV wr x p ∧ NatV wr y q ∧ i = .int .i64 (k : Nat) ∧ ComS m n k p q ∧ (digs p).length ≤ 100000 ∧ (digs q).length ≤ 100000 ∧ k ≤ 64 * 200000 + 2 ∧ Below w.heap.size w wr
def RetCom (w : World) (m n : Nat) (e : Ending) (w' : World) : Prop := ∃ v p, e = .returned v ∧ NatV w' v p ∧ ComOK m n p ∧ (digs p).length ≤ 100000 ∧ Below w.heap.size w w'

set_option maxRecDepth 100000 in
set_option maxHeartbeats 4000000 in
theorem common_any (m n : Nat) (a b : Option Addr) (ca cb : Nat) (hm : (digs m).length ≤ 100000) (hn : (digs n).length ≤ 100000) (w : World) (hs : SlD w a ca (digs m)) (ht : SlD w b cb (digs n)) :
    Calls Tryz.prog 164 #[.slice a (digs m).length ca, .slice b (digs n).length cb] w (RetCom w m n) := by
  have HS := Lib.hid (show NatV w (.slice a (digs m).length ca) m from ⟨a, ca, rfl, hs⟩)
  have HT := Lib.hid (show NatV w (.slice b (digs n).length cb) n from ⟨b, cb, rfl, ht⟩)
  clear hs ht
  go_enter Tryz.func164, Tryz.ntmps164
  go_wp2_with fail
  go_loopg [0, 1, 5] n (fun g x y i wr => ComAt m n g w wr x y i)
  case atStart => exact ⟨m, n, 0, rfl, HS.out, HT.out, rfl, ⟨rfl, fun h => by omega, fun _ => ⟨rfl, rfl⟩⟩, hm, hn, by omega, Below.refl _ _⟩
  case round =>
    obtain ⟨p, q, k, hg, ⟨ap, cp, rfl, hsp⟩, ⟨aq, cq, rfl, hsq⟩, rfl, hc, hlp, hlq, hk, hb⟩ := hrel
    obtain ⟨gq, hgq⟩ : ∃ x, x = gk := ⟨_, rfl⟩
    subst hgq
    have HG := Lib.hid hg
    have HC := Lib.hid hc
    clear hg hc
    have hq0 : (digs q).length = 0 ↔ q = 0 := by rw [List.length_eq_zero_iff, digs_nil]
    have HNP := Lib.hid (show NatV wr (.slice ap (digs p).length cp) p from ⟨ap, cp, rfl, hsp⟩)
    have HNQ := Lib.hid (show NatV wr (.slice aq (digs q).length cq) q from ⟨aq, cq, rfl, hsq⟩)
    have HEARLY := Lib.hid (fun hq hi => comS_early HC.out (q := q) hq hi)
    by_cases hz : q = 0
    · have hl0 : (digs q).length = 0 := hq0.2 hz
      have HE := Lib.hid (show ComOK m n p by subst hz; exact comS_end HC.out)
      rw [hl0] at *
      clear hq0 hl0 hz hsp hsq HC HEARLY HG HS HT hm hn
      generalize hlpe : (digs p).length = lp at *
      have HLP := Lib.hid hlpe
      clear hlpe
      by_cases hlim : (k : Int) < 64 * (lp : Int) + 2
      · go_wp2_with fail
        go_ret
        exact ⟨_, p, rfl, HNP.out, HE.out, by rw [HLP.out]; exact hlp, hb⟩
      · go_wp2_with fail
        go_ret
        exact ⟨_, p, rfl, HNP.out, HE.out, by rw [HLP.out]; exact hlp, hb⟩
    · have hql : 0 < (digs q).length := by omega
      have cdv := divided_any p q (by omega) ap aq cp cq hlp hlq wr hsp hsq
      have HST := Lib.hid (comS_step HC.out (show 0 < q by omega))
      have hml : (digs (p % q)).length ≤ (digs q).length := (digs_len _ _).2 (Nat.lt_of_lt_of_le (Nat.mod_lt p (by omega)) (Nat.le_of_lt ((digs_len q _).1 (Nat.le_refl _))))
      have HML := Lib.hid (show (digs (p % q)).length ≤ 100000 by omega)
      have HLT := Lib.hid (Nat.mod_lt p (show 0 < q by omega))
      have hq1 : 0 < q := by omega
      have HQ1 := Lib.hid hq1
      clear hq0 hz hsp hsq HC hml hq1 HS HT hm hn
      generalize hlpe : (digs p).length = lp at *
      generalize hlqe : (digs q).length = lq at *
      have HLP := Lib.hid hlpe
      have HLQ := Lib.hid hlqe
      clear hlpe hlqe
      by_cases hlim : (k : Int) < 64 * ((lp : Int) + (lq : Int)) + 2
      · have hq2 : (0 : Int) < lq := by omega
        go_wp2_with fail
        with_reducible refine cdv.mono ?_
        rintro e w1 ⟨v, u, rfl, hnv, hnu, hb1⟩
        have HNU := Lib.hid hnu
        have HNQ1 := Lib.hid (HNQ.out.keep hb1)
        have HB1 := Lib.hid (bstep hb hb1 (Nat.le_refl _))
        clear hnv hnu hb1 cdv
        go_wp2_with fail
        go_roundg (p % q)
        case measure => rw [HG.out]; exact HLT.out
        case rel => exact ⟨q, p % q, k + 1, rfl, HNQ1.out, HNU.out, by go_num, HST.out, by rw [HLQ.out]; exact hlq, HML.out, by omega, HB1.out⟩
      · have HE := Lib.hid (HEARLY.out HQ1.out (by omega))
        clear cdv
        go_wp2_with fail
        go_ret
        exact ⟨_, p, rfl, HNP.out, HE.out, by rw [HLP.out]; exact hlp, hb⟩
end Go.Proofs.YtlgbgobpdkilaaaGreatDoor

namespace Go.Proofs.YtlgbgobpdkilaaaGreatDoor
set_option linter.unusedVariables false
open Go.RowKit

/-- the reference's answer: a fraction and an error's number -/
def refV (r : Option (Int × Int)) : Value :=
  match r with
  | some (n, d) => .tuple #[.agg #[.int .i64 n, .int .i64 d], .int .i64 0]
  | none => .tuple #[.agg #[.int .i64 0, .int .i64 0], .int .i64 9]

theorem frac_zero (neg : Bool) (D : Nat) : frac neg 0 D = some (0, 1) := by
  unfold frac; rw [Nat.zero_div]; exact fitE_zero _ _
theorem lowest_val (neg : Bool) (N D p : Nat) (h : ComOK N D p) (hN : N ≠ 0) (hD : 0 < D) :
    frac neg N D = (if 9223372036854775807 < D / p ∨ 9223372036854775808 < N / p ∨ (N / p = 9223372036854775808 ∧ neg = false) then none else some (sgn neg (N / p), ((D / p : Nat) : Int))) ∧ 0 < p := by
  have hg : 0 < Nat.gcd N D := Nat.gcd_pos_of_pos_right N hD
  rcases h with rfl | ⟨hp, hdv, hle⟩
  · refine ⟨?_, hg⟩
    have h0 : N / Nat.gcd N D ≠ 0 := by
      have h1 := Nat.div_mul_cancel (Nat.gcd_dvd_left N D)
      intro h2
      rw [h2] at h1
      simp at h1
      omega
    unfold frac fitE
    rw [if_neg h0]
  · have h1 : 18446744073709551616 ≤ D / p := by rw [Nat.le_div_iff_mul_le hp, Nat.mul_comm]; exact hle
    have h2 : D / p ≤ D / Nat.gcd N D := Nat.div_le_div_left (Nat.le_of_dvd hp hdv) hg
    refine ⟨?_, hp⟩
    rw [if_pos (.inl (by omega))]
    have h0 : N / Nat.gcd N D ≠ 0 := by
      have h1 := Nat.div_mul_cancel (Nat.gcd_dvd_left N D)
      intro h2
      rw [h2] at h1
      simp at h1
      omega
    unfold frac fitE
    rw [if_neg h0, if_pos (.inl (by omega))]
theorem neg_back (k : Nat) (h : k ≤ 9223372036854775808) : wrap64 (-(wrap64 (k : Int))) = -(k : Int) := by
  unfold wrap64; omega

end Go.Proofs.YtlgbgobpdkilaaaGreatDoor

namespace Go.Proofs.YtlgbgobpdkilaaaGreatDoor
set_option linter.unusedVariables false
open Go.RowKit

set_option maxHeartbeats 1000000 in
theorem refsize_any (n : Int) (hn : -9223372036854775808 ≤ n ∧ n ≤ 9223372036854775807) (w : World) :
    Calls Tryz.prog 166 #[.int .i64 n] w fun e w' => e = .returned (.int .u64 (n.natAbs : Nat)) ∧ w' = w := by
  by_cases h : n < 0
  · have E0 := Lib.hid (show -(n + 1) + 1 = (n.natAbs : Int) by omega)
    have i1 : 0 ≤ -(n + 1) := by omega
    have i2 : -(n + 1) ≤ 9223372036854775807 := by omega
    go_enter Tryz.func166, Tryz.ntmps166
    go_wp2
    go_ret
    exact ⟨by rw [← E0.out]; rfl, rfl⟩
  · have E0 := Lib.hid (show (n.natAbs : Int) = n by omega)
    go_enter Tryz.func166, Tryz.ntmps166
    go_wp2
    go_ret
    exact ⟨by rw [E0.out]; rfl, rfl⟩

theorem digs64 {n : Nat} (h : n < 18446744073709551616) : (digs n).length ≤ 2 := (digs_len n 2).2 (by simpa using h)
theorem com64 {m n p : Nat} (h : ComOK m n p) (hn : n < 18446744073709551616) : p = Nat.gcd m n := by
  rcases h with h | ⟨h1, _, h2⟩
  · exact h
  · omega

set_option maxRecDepth 100000 in
set_option maxHeartbeats 2000000 in
theorem refright_any (n d : Int) (hn : In64 n) (hd : In64 d) (w : World) :
    Calls Tryz.prog 146 #[.agg #[.int .i64 n, .int .i64 d]] w fun e w' => e = .returned (.bool (rightB n d)) ∧ Below w.heap.size w w' := by
  obtain ⟨ta, hsz, hbw⟩ := box1 w #[.int .i64 n, .int .i64 d] 51
  have TA := Lib.hid ta
  have HB := Lib.hid hbw
  clear ta hsz hbw
  by_cases h1 : d < 1
  · have HR : Hid (rightB n d = false) := Lib.hid (by unfold rightB; rw [decide_eq_false (by omega), Bool.false_and])
    rw [HR.out]
    go_enter Tryz.func146, Tryz.ntmps146
    go_wp2_with fail
    go_ret
    exact ⟨rfl, HB.out⟩
  · unfold In64 at hn hd
    have s1 := refsize_any n hn
    have s2 := refsize_any d hd
    have hnl : n.natAbs < 18446744073709551616 := by omega
    have hdl : d.natAbs < 18446744073709551616 := by omega
    have HR : Hid (rightB n d = decide (Nat.gcd n.natAbs d.natAbs = 1)) := Lib.hid (by
      unfold rightB
      rw [decide_eq_true (show 1 ≤ d by omega), Bool.true_and, Nat.gcd_comm, Bool.eq_iff_iff, beq_iff_eq, decide_eq_true_eq])
    have hg0 : 0 < Nat.gcd n.natAbs d.natAbs := Nat.gcd_pos_of_pos_right _ (by omega)
    have hgl : Nat.gcd n.natAbs d.natAbs < 18446744073709551616 := Nat.lt_of_le_of_lt (Nat.gcd_le_right _ (by omega)) hdl
    obtain ⟨b, hb⟩ : ∃ b, b = rightB n d := ⟨_, rfl⟩
    rw [← hb]
    have HBB := Lib.hid hb
    clear hb
    generalize n.natAbs = N at *
    generalize d.natAbs = D at *
    have HGB := Lib.hid (And.intro hg0 hgl)
    have HNL := Lib.hid (And.intro hnl hdl)
    clear hg0 hgl
    go_enter Tryz.func146, Tryz.ntmps146
    go_wp2_with fail
    generalize w.alloc (.cells #[.int .i64 n, .int .i64 d] 51) = W at *
    obtain ⟨f0, f1, f2, f3⟩ := TA.out.two
    refine wp_region_held_drew (S := (fun (w' : World) => Below W.heap.size W w' ∧ w'.cell? ⟨w.heap.size, 0, none⟩ = some (.int .i64 n) ∧ w'.cell? ⟨w.heap.size, 1, none⟩ = some (.int .i64 d))) (by kernel_rfl) ⟨(Below.refl _ _).drew, f0, f1⟩ (fun hHeld => ?_)
    refine held_take 0 (v := ?_) rfl (by kernel_rfl) (by kernel_rfl) (by kernel_rfl) (fun _ _ _ h => h) (by assumption) ?_ ?_
    rotate_left
    · first | (refine Or.inr ⟨?_, ?_⟩ <;> rfl) | (refine Or.inl ⟨by rfl, ?_⟩; intro w hSw; (try dsimp only at hSw); first | (go_simp; done) | (go_simp; with_reducible rfl))
    try simp only [Act.put, List.setIfInBounds_toArray, List.set_cons_zero, List.set_cons_succ]
    refine held_take 1 (v := ?_) rfl (by kernel_rfl) (by kernel_rfl) (by kernel_rfl) (fun _ _ _ h => h) (by assumption) ?_ ?_
    rotate_left
    · first | (refine Or.inr ⟨?_, ?_⟩ <;> rfl) | (refine Or.inl ⟨by rfl, ?_⟩; intro w hSw; (try dsimp only at hSw); first | (go_simp; done) | (go_simp; with_reducible rfl))
    try simp only [Act.put, List.setIfInBounds_toArray, List.set_cons_zero, List.set_cons_succ]
    refine held_take 4 (v := ?_) rfl (by kernel_rfl) (by kernel_rfl) (by kernel_rfl) (fun _ _ _ h => h) (by assumption) ?_ ?_
    rotate_left
    · first | (refine Or.inr ⟨?_, ?_⟩ <;> rfl) | (refine Or.inl ⟨by rfl, ?_⟩; intro w hSw; (try dsimp only at hSw); first | (go_simp; done) | (go_simp; with_reducible rfl))
    try simp only [Act.put, List.setIfInBounds_toArray, List.set_cons_zero, List.set_cons_succ]
    refine held_take 5 (v := ?_) rfl (by kernel_rfl) (by kernel_rfl) (by kernel_rfl) (fun _ _ _ h => h) (by assumption) ?_ ?_
    rotate_left
    · first | (refine Or.inr ⟨?_, ?_⟩ <;> rfl) | (refine Or.inl ⟨by rfl, ?_⟩; intro w hSw; (try dsimp only at hSw); first | (go_simp; done) | (go_simp; with_reducible rfl))
    try simp only [Act.put, List.setIfInBounds_toArray, List.set_cons_zero, List.set_cons_succ]
    refine held_call 2 rfl (by kernel_rfl) (fun K hK => ?_)
    go_simp
    with_reducible refine (s1 _).mono ?_
    rintro e w1 ⟨rfl, rfl⟩
    refine hK.out _ _ ?_ (fun hHeld => ?_)
    · first | exact hHeld | exact ⟨bstep hHeld.1 hbk (Nat.le_refl _), cell_keep' hHeld.2.1 hbk, cell_keep' hHeld.2.2 hbk⟩
    clear hK K
    try simp only [Act.put, List.setIfInBounds_toArray, List.set_cons_zero, List.set_cons_succ]
    refine held_call 3 rfl (by kernel_rfl) (fun K hK => ?_)
    go_simp
    with_reducible refine (from_any N hnl _).mono ?_
    rintro e w2 ⟨v1, rfl, ⟨a1, c1, rfl, hs1⟩, _, hbk⟩
    have hbA := hbk
    refine hK.out _ _ ?_ (fun hHeld => ?_)
    · first | exact hHeld | exact ⟨bstep hHeld.1 hbk (Nat.le_refl _), cell_keep' hHeld.2.1 hbk, cell_keep' hHeld.2.2 hbk⟩
    clear hK K
    try simp only [Act.put, List.setIfInBounds_toArray, List.set_cons_zero, List.set_cons_succ]
    refine held_call 6 rfl (by kernel_rfl) (fun K hK => ?_)
    go_simp
    with_reducible refine (s2 _).mono ?_
    rintro e w1 ⟨rfl, rfl⟩
    refine hK.out _ _ ?_ (fun hHeld => ?_)
    · first | exact hHeld | exact ⟨bstep hHeld.1 hbk (Nat.le_refl _), cell_keep' hHeld.2.1 hbk, cell_keep' hHeld.2.2 hbk⟩
    clear hK K
    try simp only [Act.put, List.setIfInBounds_toArray, List.set_cons_zero, List.set_cons_succ]
    refine held_call 7 rfl (by kernel_rfl) (fun K hK => ?_)
    go_simp
    with_reducible refine (from_any D hdl _).mono ?_
    rintro e w3 ⟨v2, rfl, ⟨a2, c2, rfl, hs2⟩, _, hbk⟩
    have hbB := hbk
    refine hK.out _ _ ?_ (fun hHeld => ?_)
    · first | exact hHeld | exact ⟨bstep hHeld.1 hbk (Nat.le_refl _), cell_keep' hHeld.2.1 hbk, cell_keep' hHeld.2.2 hbk⟩
    clear hK K
    try simp only [Act.put, List.setIfInBounds_toArray, List.set_cons_zero, List.set_cons_succ]
    refine held_call 8 rfl (by kernel_rfl) (fun K hK => ?_)
    go_simp
    with_reducible refine (common_any N D a1 a2 c1 c2 (by have := digs64 hnl; omega) (by have := digs64 hdl; omega) _ (hs1.keep hbB (Nat.le_refl _)) hs2).mono ?_
    rintro e w4 ⟨v3, p, rfl, ⟨a3, c3, rfl, hs3⟩, hcom, hlp, hbk⟩
    refine hK.out _ _ ?_ (fun hHeld => ?_)
    · first | exact hHeld | exact ⟨bstep hHeld.1 hbk (Nat.le_refl _), cell_keep' hHeld.2.1 hbk, cell_keep' hHeld.2.2 hbk⟩
    clear hK K
    try simp only [Act.put, List.setIfInBounds_toArray, List.set_cons_zero, List.set_cons_succ]
    refine held_take 9 (v := ?_) rfl (by kernel_rfl) (by kernel_rfl) (by kernel_rfl) (fun _ _ _ h => h) (by assumption) ?_ ?_
    rotate_left
    · first | (refine Or.inr ⟨?_, ?_⟩ <;> rfl) | (refine Or.inl ⟨by rfl, ?_⟩; intro w hSw; (try dsimp only at hSw); first | (go_simp; done) | (go_simp; with_reducible rfl))
    try simp only [Act.put, List.setIfInBounds_toArray, List.set_cons_zero, List.set_cons_succ]
    refine wpAnyH_done (by kernel_rfl) ?_ _
    have HB3 := Lib.hid (HB.out.trans (hHeld.1.mono HB.out.size))
    have hpe := com64 hcom HNL.out.2
    rw [← hpe] at HGB
    have cw := word_any p a3 c3 _ hs3
    rw [Nat.mod_eq_of_lt HGB.out.2, decide_eq_true HGB.out.2] at cw
    have eb : ((p : Int) == 1) = b := by
      rw [HBB.out, HR.out, Bool.eq_iff_iff, beq_iff_eq, decide_eq_true_eq, ← hpe]; omega
    clear hcom hpe
    go_wp2_with fail
    with_reducible refine cw.mono ?_
    rintro e w5 ⟨rfl, rfl⟩
    clear cw
    go_wp2_with fail
    go_ret
    exact ⟨rfl, HB3.out⟩

end Go.Proofs.YtlgbgobpdkilaaaGreatDoor
