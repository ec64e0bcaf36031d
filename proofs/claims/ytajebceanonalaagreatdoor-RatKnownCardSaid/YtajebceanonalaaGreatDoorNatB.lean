/-
  The reference's natural numbers: contracts of held, word.
-/
import Derived.Test.YtajebceanonalaaGreatDoorNatA
import Derived.Deep.CutBlock
import Derived.Deep.DeepCutAuto
namespace Go.Proofs.YtajebceanonalaaGreatDoor
set_option linter.unusedVariables false
open Go.RowKit

def heldI (a b : Nat) : Int := if a < b then -1 else if a = b then 0 else 1
theorem held_step {a b k : Nat} (h : a / 4294967296 ^ (k + 1) = b / 4294967296 ^ (k + 1)) :
    (a / 4294967296 ^ k % 4294967296 < b / 4294967296 ^ k % 4294967296 → heldI a b = -1) ∧ (b / 4294967296 ^ k % 4294967296 < a / 4294967296 ^ k % 4294967296 → heldI a b = 1) ∧
    (a / 4294967296 ^ k % 4294967296 = b / 4294967296 ^ k % 4294967296 → a / 4294967296 ^ k = b / 4294967296 ^ k) := by
  have ea : a / 4294967296 ^ (k + 1) = a / 4294967296 ^ k / 4294967296 := by rw [Nat.pow_succ, ← Nat.div_div_eq_div_mul]
  have eb : b / 4294967296 ^ (k + 1) = b / 4294967296 ^ k / 4294967296 := by rw [Nat.pow_succ, ← Nat.div_div_eq_div_mul]
  rw [ea, eb] at h
  have key : ∀ x y : Nat, x / 4294967296 ^ k < y / 4294967296 ^ k → x < y := fun x y hxy => by
    rcases Nat.lt_or_ge x y with h1 | h1
    · exact h1
    · exact absurd (Nat.div_le_div_right (c := 4294967296 ^ k) h1) (Nat.not_le_of_lt hxy)
  have k1 := key a b
  have k2 := key b a
  clear ea eb key
  generalize a / 4294967296 ^ k = A at *
  generalize b / 4294967296 ^ k = B at *
  refine ⟨fun hlt => ?_, fun hlt => ?_, fun he => by omega⟩
  · have := k1 (by omega)
    unfold heldI; rw [if_pos this]
  · have := k2 (by omega)
    unfold heldI; rw [if_neg (by omega), if_neg (by omega)]

def HeldAt (a b : Nat) (k : Nat) (x : Value) : Prop := ∃ j : Nat, x = .int .i64 ((j : Int) - 1) ∧ j ≤ k ∧ a / 4294967296 ^ j = b / 4294967296 ^ j
theorem div_pow_len {a k : Nat} (h : (digs a).length ≤ k) : a / 4294967296 ^ k = 0 := Nat.div_eq_of_lt ((digs_len a k).1 h)

set_option maxHeartbeats 1000000 in
theorem held_any (m n : Nat) (a b : Option Addr) (ca cb : Nat) (hm : (digs m).length ≤ 1000000) (hn : (digs n).length ≤ 1000000) (w : World) (hs : SlD w a ca (digs m)) (ht : SlD w b cb (digs n)) :
    Calls Tryz.prog 109 #[.slice a (digs m).length ca, .slice b (digs n).length cb] w fun e w' => e = .returned (.int .i64 (heldI m n)) ∧ w' = w := by
  have cd := fun i hi => digit_any (digs m) (digs_ok m) a ca i hi w hs
  have ce := fun i hi => digit_any (digs n) (digs_ok n) b cb i hi w ht
  simp only [digit_digs] at cd ce
  obtain ⟨K, hK⟩ : ∃ K : Nat, K = max (digs m).length (digs n).length := ⟨_, rfl⟩
  have hK1 : (digs m).length ≤ K := by omega
  have hK2 : (digs n).length ≤ K := by omega
  have HM := Lib.hid (div_pow_len hK1)
  have HN := Lib.hid (div_pow_len hK2)
  have HMX := Lib.hid hK
  have hK3 : K ≤ 1000000 := by omega
  clear hK hK1 hK2
  obtain ⟨r, hr⟩ : ∃ r, r = heldI m n := ⟨_, rfl⟩
  rw [← hr]
  have HR := Lib.hid hr
  clear hr
  generalize (digs m).length = lm at *
  generalize (digs n).length = ln at *
  go_enter Tryz.func109, Tryz.ntmps109
  go_upto_region 1 with fail
  go_cut [5] (fun x wc => x = .int .i64 ((K : Int) - 1) ∧ wc = w)
  case first =>
    by_cases hlt : (lm : Int) < ln
    · have HE := Lib.hid (show (ln : Int) - 1 = (K : Int) - 1 by have := HMX.out; omega)
      go_wp2_with fail
      go_meet
      case rel => exact ⟨by rw [HE.out], rfl⟩
    · have HE := Lib.hid (show (lm : Int) - 1 = (K : Int) - 1 by have := HMX.out; omega)
      go_wp2_with fail
      go_meet
      case rel => exact ⟨by rw [HE.out], rfl⟩
  case rest =>
    obtain ⟨rfl, rfl⟩ := hcut
    go_wp2_with fail
    go_loop [5] (fun x => HeldAt m n K x) (fun x => (intOf x + 1).toNat)
    case atStart => exact ⟨K, rfl, Nat.le_refl _, by rw [HM.out, HN.out]⟩
    case round =>
      obtain ⟨j, rfl, hj, he⟩ := hrel
      have HE := Lib.hid he
      clear he
      rcases Nat.eq_zero_or_pos j with h0 | h0
      · subst h0
        have HZ := Lib.hid (show r = 0 by have h := HE.out; simp at h; rw [HR.out, h]; unfold heldI; rw [if_neg (Nat.lt_irrefl _), if_pos rfl])
        go_wp2_with fail
        go_ret
        exact ⟨by rw [HZ.out]; rfl, rfl⟩
      · obtain ⟨i, rfl⟩ : ∃ i, j = i + 1 := ⟨j - 1, by omega⟩
        obtain ⟨s1, s2, s3⟩ := held_step HE.out
        have S1 := Lib.hid s1
        have S2 := Lib.hid s2
        have S3 := Lib.hid s3
        have c1 := cd i (by omega)
        have c2 := ce i (by omega)
        have e1 : ((i + 1 : Nat) : Int) - 1 = (i : Int) := by omega
        rw [e1]
        have x1 := Nat.mod_lt (m / 4294967296 ^ i) (show 0 < 4294967296 by decide)
        have x2 := Nat.mod_lt (n / 4294967296 ^ i) (show 0 < 4294967296 by decide)
        clear s1 s2 s3 cd ce e1
        generalize m / 4294967296 ^ i % 4294967296 = x at *
        generalize n / 4294967296 ^ i % 4294967296 = y at *
        rcases Nat.lt_trichotomy x y with h | h | h
        · have HZ := Lib.hid (show r = -1 by rw [HR.out]; exact S1.out h)
          have k1 : (x : Int) < y := by omega
          go_wp2_with fail
          with_reducible refine c1.mono ?_
          rintro e w1 ⟨rfl, rfl⟩
          go_wp2_with fail
          with_reducible refine c2.mono ?_
          rintro e w1 ⟨rfl, rfl⟩
          go_wp2_with fail
          go_ret
          exact ⟨by rw [HZ.out]; rfl, rfl⟩
        · have S4 := Lib.hid (S3.out h)
          clear S1 S2 S3
          subst h
          have k1 : ¬ (x : Int) < x := by omega
          go_wp2_with fail
          with_reducible refine c1.mono ?_
          rintro e w1 ⟨rfl, rfl⟩
          go_wp2_with fail
          with_reducible refine c2.mono ?_
          rintro e w1 ⟨rfl, rfl⟩
          go_wp2_with fail
          go_round
          case rel => exact ⟨i, rfl, by omega, S4.out⟩
          case measure => simp [intOf]
        · have HZ := Lib.hid (show r = 1 by rw [HR.out]; exact S2.out h)
          have k1 : ¬ (x : Int) < y := by omega
          have k2 : (y : Int) < x := by omega
          go_wp2_with fail
          with_reducible refine c1.mono ?_
          rintro e w1 ⟨rfl, rfl⟩
          go_wp2_with fail
          with_reducible refine c2.mono ?_
          rintro e w1 ⟨rfl, rfl⟩
          go_wp2_with fail
          go_ret
          exact ⟨by rw [HZ.out]; rfl, rfl⟩

theorem word_val (n : Nat) : (digs n)[0]?.getD 0 + 4294967296 * ((digs n)[1]?.getD 0) = n % 18446744073709551616 := by
  rw [digit_digs, digit_digs]
  simp only [Nat.pow_zero, Nat.div_one, Nat.pow_one]
  omega

theorem or_zero64 (x : Nat) (hx : x < 4294967296) : bits .or .u64 0 (x : Int) = (x : Int) := by
  have h := bits_or_u64_nat 0 x (by decide) (by omega)
  rw [Nat.zero_or] at h
  exact h
theorem p32 : (2 : Nat) ^ 32 = 4294967296 := by decide +kernel
theorem or_words (x y : Nat) (hx : x < 4294967296) (hy : y < 4294967296) : bits .or .u64 (x : Int) ((y : Int) * 4294967296) = ((x + 4294967296 * y : Nat) : Int) := by
  have h := bits_or_u64_nat x (y * 4294967296) (by omega) (by omega)
  have e := Nat.shiftLeft_add_eq_or_of_lt (i := 32) (b := x) (by rw [p32]; exact hx) y
  rw [Nat.shiftLeft_eq, Nat.or_comm, p32] at e
  rw [← e, Nat.add_comm, Nat.mul_comm y] at h
  rw [← h, Int.natCast_mul, Int.mul_comm]
  rfl

set_option maxHeartbeats 1000000 in
theorem word_any (n : Nat) (a : Option Addr) (cap : Nat) (w : World) (hs : SlD w a cap (digs n)) :
    Calls Tryz.prog 70 #[.slice a (digs n).length cap] w fun e w' =>
      e = .returned (.tuple #[.int .u64 (n % 18446744073709551616 : Nat), .bool (decide (n < 18446744073709551616))]) ∧ w' = w := by
  have hv := word_val n
  have hd := digs_ok n
  have hlen := hs.len
  have hle := digs_len n 2
  obtain ⟨r, hr⟩ : ∃ r, r = n % 18446744073709551616 := ⟨_, rfl⟩
  obtain ⟨b, hb⟩ : ∃ b, b = decide (n < 18446744073709551616) := ⟨_, rfl⟩
  rw [← hr] at hv ⊢
  rw [← hb]
  have hb2 : b = decide ((digs n).length ≤ 2) := by
    rw [hb, Bool.eq_iff_iff, decide_eq_true_eq, decide_eq_true_eq, hle]
  clear hr hb hle
  generalize digs n = l at *
  match l, hs, hv, hd, hlen, hb2 with
  | [], hs, hv, hd, hlen, hb2 =>
    have HV := Lib.hid hv
    have HB := Lib.hid hb2
    clear hv hb2
    simp only [List.length_nil] at *
    go_enter Tryz.func70, Tryz.ntmps70
    go_wp2_with fail
    refine wp_loop_rounds 1 ?_
    rw [rounds_succ]
    go_wp2_with fail
    go_ret2
    exact ⟨by rw [HB.out, ← HV.out]; rfl, rfl⟩
  | [x], hs, hv, hd, hlen, hb2 =>
    have HV := Lib.hid hv
    have HB := Lib.hid hb2
    obtain ⟨g, o, rfl, hg, hc⟩ := hs.at (show 0 < [x].length by simp)
    have hx := hd x (by simp)
    simp only [List.length_singleton, List.getElem_singleton, Nat.add_zero] at *
    clear hv hb2
    go_enter Tryz.func70, Tryz.ntmps70
    go_wp2_with fail
    refine wp_loop_rounds 2 ?_
    rw [rounds_succ]
    have o1 := or_zero64 x hx
    go_wp2_with fail
    rw [rounds_succ]
    go_wp2_with fail
    go_ret2
    exact ⟨by rw [HB.out, ← HV.out]; rfl, rfl⟩
  | [x, y], hs, hv, hd, hlen, hb2 =>
    have HV := Lib.hid hv
    have HB := Lib.hid hb2
    obtain ⟨g, o, rfl, hg, hc⟩ := hs.at (show 0 < ([x, y]).length by simp)
    obtain ⟨g2, o2, he, hg2, hc2⟩ := hs.at (show 1 < ([x, y]).length by simp)
    simp only [Option.some.injEq, Addr.mk.injEq, and_true] at he
    obtain ⟨rfl, rfl⟩ := he
    have hx := hd x (by simp)
    have hy := hd y (by simp)
    have o1 := or_zero64 x hx
    have o2 := or_words x y hx hy
    have HR := Lib.hid (show x + 4294967296 * y = r from hv)
    rw [HR.out] at o2
    simp only [List.length_cons, List.length_nil, List.getElem_cons_zero, List.getElem_cons_succ, Nat.add_zero] at *
    clear hv hb2 hg2
    go_enter Tryz.func70, Tryz.ntmps70
    go_wp2_with fail
    refine wp_loop_rounds 3 ?_
    rw [rounds_succ]
    go_wp2_with fail
    rw [rounds_succ]
    go_wp2_with fail
    rw [rounds_succ]
    go_wp2_with fail
    go_ret2
    exact ⟨by rw [HB.out]; rfl, rfl⟩
  | x :: y :: z :: l, hs, hv, hd, hlen, hb2 =>
    have HV := Lib.hid hv
    have HB := Lib.hid hb2
    obtain ⟨g, o, rfl, hg, hc⟩ := hs.at (show 0 < (x :: y :: z :: l).length by simp)
    obtain ⟨g2, o2, he, hg2, hc2⟩ := hs.at (show 1 < (x :: y :: z :: l).length by simp)
    simp only [Option.some.injEq, Addr.mk.injEq, and_true] at he
    obtain ⟨rfl, rfl⟩ := he
    have hx := hd x (by simp)
    have hy := hd y (by simp)
    have o1 := or_zero64 x hx
    have o2 := or_words x y hx hy
    have HR := Lib.hid (show x + 4294967296 * y = r from hv)
    rw [HR.out] at o2
    simp only [List.length_cons, List.getElem_cons_zero, List.getElem_cons_succ, Nat.add_zero] at *
    clear hv hb2 hg2
    obtain ⟨m, hm⟩ : ∃ m, m = l.length := ⟨_, rfl⟩
    rw [← hm] at *
    have k1 : (2 : Int) < (m : Int) + 1 + 1 + 1 := by omega
    have k2 : ¬ (m : Int) + 1 + 1 + 1 ≤ 2 := by omega
    have k3 : decide ((m : Int) + 1 + 1 + 1 ≤ 2) = false := decide_eq_false (by omega)
    clear hm
    go_enter Tryz.func70, Tryz.ntmps70
    go_wp2_with fail
    refine wp_loop_rounds 3 ?_
    rw [rounds_succ]
    go_wp2_with fail
    rw [rounds_succ]
    go_wp2_with fail
    rw [rounds_succ]
    go_wp2_with fail
    go_ret2
    exact ⟨by rw [HB.out]; rw [decide_eq_false (show ¬ l.length + 1 + 1 + 1 ≤ 2 by omega)]; rfl, rfl⟩
end Go.Proofs.YtajebceanonalaaGreatDoor
