/-
  Contracts of the reference's Covers.
-/
import Derived.Test.YtflghgilcooiiaaDoorFilterC
namespace Go.Proofs.YtflghgilcooiiaaDoor
set_option linter.unusedVariables false
open Go.RowKit

set_option maxHeartbeats 400000 in
theorem most_any (wide : Bool) (w : World) :
    Calls Tryd.prog 28 #[.bool wide] w fun e w' => e = .returned (.int .u32 (idsN wide : Nat)) ∧ w = w' := by
  cases wide
  all_goals
    go_enter Tryd.func28, Tryd.ntmps28
    go_wp2
    go_ret
    exact ⟨rfl, rfl⟩

theorem bit_pow (k : Nat) (hk : k < 32) : ((2 : Int) ^ k % 4294967296) = ((2 ^ k : Nat) : Int) := by
  have h1 : (2 : Nat) ^ k ≤ 2 ^ 31 := Nat.pow_le_pow_right (by decide) (by omega)
  have hc : ((2 : Int) ^ k) = ((2 ^ k : Nat) : Int) := by simp
  rw [hc]
  generalize 2 ^ k = m at *
  have h2 : m ≤ 2147483648 := h1
  omega
theorem bit_is (x k : Nat) (hx : x < 4294967296) (hk : k < 32) : bits BinOp.and IntKind.u32 (x : Int) ((2 : Int) ^ k % 4294967296) = if x.testBit k = true then ((2 ^ k : Nat) : Int) else 0 := by
  have h1 : (2 : Nat) ^ k ≤ 2 ^ 31 := Nat.pow_le_pow_right (by decide) (by omega)
  have h2 : (2 : Nat) ^ k < 4294967296 := Nat.lt_of_le_of_lt h1 (by decide)
  rw [bit_pow k hk, u32_and_nat x _ hx h2, nat_bit]
  rw [Nat.testBit_eq_decide_div_mod_eq]
  by_cases h : x / 2 ^ k % 2 = 1
  · rw [if_pos (by simpa using h), h, Nat.one_mul]
  · have h0 : x / 2 ^ k % 2 = 0 := by omega
    rw [if_neg (by simpa using h), h0, Nat.zero_mul]; rfl
theorem bit_eq (x k : Nat) (hx : x < 4294967296) (hk : k < 32) : (bits BinOp.and IntKind.u32 (x : Int) ((2 : Int) ^ k % 4294967296) == 0) = !x.testBit k := by
  rw [bit_is x k hx hk]
  have h1 : 0 < (2 : Nat) ^ k := Nat.two_pow_pos k
  cases x.testBit k
  · rfl
  · rw [if_pos rfl]
    generalize 2 ^ k = m at *
    have : ((m : Int) == 0) = false := by rw [beq_eq_false_iff_ne]; omega
    rw [this]; rfl
theorem bit_ne (x k : Nat) (hx : x < 4294967296) (hk : k < 32) : (bits BinOp.and IntKind.u32 (x : Int) ((2 : Int) ^ k % 4294967296) != 0) = x.testBit k := by
  rw [bne, bit_eq x k hx hk, Bool.not_not]

set_option maxRecDepth 100000 in
set_option maxHeartbeats 4000000 in
theorem coversRef_any (r s : RuleD) (hr : okRule r) (hs : okRule s) (w : World) :
    Calls Tryd.prog 24 #[.agg #[.bool r.wide, .int .u32 r.code, .int .u32 r.mask], .agg #[.bool s.wide, .int .u32 s.code, .int .u32 s.mask]] w fun e w' => e = .returned (.bool (coversR r s)) ∧ Below w.heap.size w w' := by
  go_enter Tryd.func24, Tryd.ntmps24
  go_wp2_with fail
  refine (most_any s.wide _).mono ?_
  rintro e _ ⟨rfl, rfl⟩
  go_wp2_with fail
  go_loop [6, 7] (fun f i => ∃ k : Nat, k ≤ 32 ∧ i = .int .i64 k ∧ (List.range k).any (outB (idsN s.wide) s) = false ∧ f = .bool ((r.wide == s.wide) && (List.range k).all (fitB (idsN s.wide) r s))) (fun _ i => 32 - (intOf i).toNat)
  case atStart => exact ⟨0, by omega, rfl, rfl, by simp⟩
  case round =>
    obtain ⟨k, hk, rfl, hno, rfl⟩ := hrel
    have HNO := Lib.hid hno
    clear hno
    by_cases hlt : k < 32
    · have hid : idsN s.wide < 4294967296 := Nat.lt_trans (idsN_lt _) (by decide)
      have a1 := bit_eq (idsN s.wide) k hid hlt
      have a2 := bit_ne s.mask k hs.2 hlt
      have a3 := bit_ne s.code k hs.1 hlt
      have a4 := bit_eq r.mask k hr.2 hlt
      have a5 := bit_eq r.code k hr.1 hlt
      have a6 : (bits BinOp.and IntKind.u32 (bits BinOp.xor IntKind.u32 (r.code : Int) (s.code : Int)) ((2 : Int) ^ k % 4294967296) == 0) = !(r.code.testBit k ^^ s.code.testBit k) := by
        rw [u32_xor_nat _ _ hr.1 hs.1, bit_eq _ k (Nat.xor_lt_two_pow (n := 32) hr.1 hs.1) hlt, Nat.testBit_xor]
      have hob : Hid (outB (idsN s.wide) s k = (!(idsN s.wide).testBit k && (s.mask.testBit k && s.code.testBit k))) := rfl
      have hfb : Hid (fitB (idsN s.wide) r s k = if (idsN s.wide).testBit k then !r.mask.testBit k || (s.mask.testBit k && (r.code.testBit k == s.code.testBit k)) else !r.mask.testBit k || !r.code.testBit k) := rfl
      have hany : Hid ((List.range (k + 1)).any (outB (idsN s.wide) s) = outB (idsN s.wide) s k) := by
        show _ = _
        rw [List.range_succ, List.any_append, HNO.out]; simp
      have hall : Hid (((r.wide == s.wide) && (List.range (k + 1)).all (fitB (idsN s.wide) r s)) = (((r.wide == s.wide) && (List.range k).all (fitB (idsN s.wide) r s)) && fitB (idsN s.wide) r s k)) := by
        show _ = _
        rw [List.range_succ, List.all_append, ← Bool.and_assoc]; simp
      have hret : Hid (outB (idsN s.wide) s k = true → coversR r s = true) := by
        intro h
        unfold coversR
        rw [Bool.or_eq_true, List.any_eq_true]
        exact .inl ⟨k, List.mem_range.2 hlt, h⟩
      generalize outB (idsN s.wide) s k = ob at *
      generalize fitB (idsN s.wide) r s k = fb at *
      generalize ((r.wide == s.wide) && (List.range k).all (fitB (idsN s.wide) r s)) = f at *
      generalize (idsN s.wide).testBit k = bi at *
      generalize s.mask.testBit k = sm at *
      generalize s.code.testBit k = sc at *
      generalize r.mask.testBit k = rm at *
      generalize r.code.testBit k = rc at *
      clear hid hr hs
      cases bi <;> cases sm <;> cases sc <;> cases rm <;> cases rc <;> cases f
      all_goals
        simp only [Bool.not_true, Bool.not_false, Bool.xor_true, Bool.xor_false] at a1 a2 a3 a4 a5 a6
        go_wp2_with fail
        first
          | (go_ret; exact ⟨by rw [hret.out (by rw [hob.out]; rfl)]; rfl, ((Below.refl _ _).alloc (Nat.le_refl _) _).alloc (by simp) _⟩)
          | (go_round
             case rel => exact ⟨k + 1, by omega, by go_num, by rw [hany.out, hob.out]; rfl, by rw [hall.out, hfb.out]; rfl⟩
             case measure => simp [intOf]; omega)
    · obtain rfl : k = 32 := by omega
      have hfin : Hid (coversR r s = ((r.wide == s.wide) && (List.range 32).all (fitB (idsN s.wide) r s))) := by
        show _ = _
        unfold coversR
        rw [HNO.out, Bool.false_or]
      generalize ((r.wide == s.wide) && (List.range 32).all (fitB (idsN s.wide) r s)) = v at *
      go_wp2_with fail
      go_ret
      exact ⟨by rw [hfin.out]; rfl, ((Below.refl _ _).alloc (Nat.le_refl _) _).alloc (by simp) _⟩
end Go.Proofs.YtflghgilcooiiaaDoor
