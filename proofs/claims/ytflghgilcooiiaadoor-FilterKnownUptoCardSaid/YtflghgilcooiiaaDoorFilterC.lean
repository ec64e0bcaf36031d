/-
  Contracts of package filter and of the reference's: plain, covers, Covers. (A seat that lists filter.none.)
-/
import Derived.Test.YtflghgilcooiiaaDoorFilterM
import Derived.Test.YtflghgilcooiiaaDoorBaseB
import Derived.Deep.DeepCutAuto
import Derived.StillTailTactics
namespace Go.Proofs.YtflghgilcooiiaaDoor
set_option linter.unusedVariables false
open Go.RowKit

/-- filter.none's cells -/
structure NoneAt (w : World) : Prop where
  c0 : w.cell? ⟨0, 0, none⟩ = some (.bool false)
  c1 : w.cell? ⟨0, 1, none⟩ = some (.int .u32 2147483648)
  c2 : w.cell? ⟨0, 2, none⟩ = some (.int .u32 2147483648)
theorem NoneAt.keep {w w' : World} (h : NoneAt w) {B : Nat} (hb : Below B w w') (hB : 0 < B) : NoneAt w' :=
  ⟨cell_keep h.c0 hb hB, cell_keep h.c1 hb hB, cell_keep h.c2 hb hB⟩
theorem NoneAt.pos {w : World} (h : NoneAt w) : 0 < w.heap.size := World.block_lt_of_cell? _ _ h.c0

def ruleV (r : RuleD) : Value := .agg #[.bool r.wide, .int .u32 r.code, .int .u32 r.mask]

set_option maxHeartbeats 1000000 in
theorem plain_any (r : RuleD) (hr : okRule r) (w : World) (hn : NoneAt w) :
    Calls Tryd.prog 22 #[.agg #[.bool r.wide, .int .u32 r.code, .int .u32 r.mask]] w fun e w' => e = .returned (ruleV (plainR r)) ∧ Below w.heap.size w w' := by
  have hL := hn.pos
  obtain ⟨n0, n1, n2⟩ := hn
  obtain ⟨rw', c, m⟩ := r
  obtain ⟨hc, hm⟩ := hr
  simp only at hc hm ⊢
  have hcm : c &&& m < 4294967296 := Nat.lt_of_le_of_lt Nat.and_le_left hc
  have e1 : bits BinOp.and IntKind.u32 (c : Int) (m : Int) = ((c &&& m : Nat) : Int) := u32_and_nat c m hc hm
  have hid : idsN rw' < 4294967296 := Nat.lt_trans (idsN_lt _) (by decide)
  have e2 : bits BinOp.andNot IntKind.u32 ((c &&& m : Nat) : Int) ((idsN rw' : Nat) : Int) = (((c &&& m) &&& (4294967295 - idsN rw') : Nat) : Int) := u32_andNot_nat _ _ hcm hid
  have e3 : bits BinOp.and IntKind.u32 (m : Int) ((idsN rw' : Nat) : Int) = ((m &&& idsN rw' : Nat) : Int) := u32_and_nat m _ hm hid
  have hmi : m &&& idsN rw' < 4294967296 := Nat.lt_of_le_of_lt Nat.and_le_left hm
  have e4 : bits BinOp.and IntKind.u32 (c : Int) ((m &&& idsN rw' : Nat) : Int) = ((c &&& (m &&& idsN rw') : Nat) : Int) := u32_and_nat c _ hc hmi
  by_cases hp : (c &&& m) &&& (4294967295 - idsN rw') = 0
  · have hpl : Hid (ruleV (plainR ⟨rw', c, m⟩) = .agg #[.bool rw', .int .u32 ((c &&& (m &&& idsN rw') : Nat) : Int), .int .u32 ((m &&& idsN rw' : Nat) : Int)]) := by
      show _ = _
      unfold plainR
      rw [if_pos hp]; rfl
    have e5 : (bits BinOp.andNot IntKind.u32 (bits BinOp.and IntKind.u32 (c : Int) (m : Int)) ((idsN rw' : Nat) : Int) != 0) = false := by rw [e1, e2, hp]; rfl
    rw [← e3] at e4
    have E3 := Lib.hid e3
    have E4 := Lib.hid e4
    clear e1 e2 e3 e4 hp
    cases rw'
    · have e5 : (bits BinOp.andNot IntKind.u32 (bits BinOp.and IntKind.u32 (c : Int) (m : Int)) 2047 != 0) = false := e5
      have E3 : Hid (bits BinOp.and IntKind.u32 (m : Int) 2047 = ((m &&& idsN false : Nat) : Int)) := E3
      have E4 : Hid (bits BinOp.and IntKind.u32 (c : Int) (bits BinOp.and IntKind.u32 (m : Int) 2047) = ((c &&& (m &&& idsN false) : Nat) : Int)) := E4
      go_enter Tryd.func22, Tryd.ntmps22
      go_wp2
      exact bodyPost_ret (v := .agg #[.bool false, .int .u32 (bits BinOp.and IntKind.u32 (c : Int) (bits BinOp.and IntKind.u32 (m : Int) 2047)), .int .u32 (bits BinOp.and IntKind.u32 (m : Int) 2047)]) (by simp [results, Tryd.results22, go_sem]) rfl ⟨by rw [hpl.out, E4.out, E3.out], ((Below.refl _ _).alloc (Nat.le_refl _) _).alloc (by simp) _⟩
    · have e5 : (bits BinOp.andNot IntKind.u32 (bits BinOp.and IntKind.u32 (c : Int) (m : Int)) 536870911 != 0) = false := e5
      have E3 : Hid (bits BinOp.and IntKind.u32 (m : Int) 536870911 = ((m &&& idsN true : Nat) : Int)) := E3
      have E4 : Hid (bits BinOp.and IntKind.u32 (c : Int) (bits BinOp.and IntKind.u32 (m : Int) 536870911) = ((c &&& (m &&& idsN true) : Nat) : Int)) := E4
      go_enter Tryd.func22, Tryd.ntmps22
      go_wp2
      exact bodyPost_ret (v := .agg #[.bool true, .int .u32 (bits BinOp.and IntKind.u32 (c : Int) (bits BinOp.and IntKind.u32 (m : Int) 536870911)), .int .u32 (bits BinOp.and IntKind.u32 (m : Int) 536870911)]) (by simp [results, Tryd.results22, go_sem]) rfl ⟨by rw [hpl.out, E4.out, E3.out], ((Below.refl _ _).alloc (Nat.le_refl _) _).alloc (by simp) _⟩
  · have hpl : Hid (ruleV (plainR ⟨rw', c, m⟩) = .agg #[.bool false, .int .u32 2147483648, .int .u32 2147483648]) := by
      show _ = _
      unfold plainR
      rw [if_neg hp]; rfl
    have e5 : (bits BinOp.andNot IntKind.u32 (bits BinOp.and IntKind.u32 (c : Int) (m : Int)) ((idsN rw' : Nat) : Int) != 0) = true := by rw [e1, e2, bne_iff_ne]; omega
    clear e1 e2 e3 e4 hp
    cases rw'
    · have e5 : (bits BinOp.andNot IntKind.u32 (bits BinOp.and IntKind.u32 (c : Int) (m : Int)) 2047 != 0) = true := e5
      go_enter Tryd.func22, Tryd.ntmps22
      go_wp2
      exact bodyPost_ret (v := .agg #[.bool false, .int .u32 2147483648, .int .u32 2147483648]) (by simp [results, Tryd.results22, go_sem]) rfl ⟨by rw [hpl.out], ((Below.refl _ _).alloc (Nat.le_refl _) _).alloc (by simp) _⟩
    · have e5 : (bits BinOp.andNot IntKind.u32 (bits BinOp.and IntKind.u32 (c : Int) (m : Int)) 536870911 != 0) = true := e5
      go_enter Tryd.func22, Tryd.ntmps22
      go_wp2
      exact bodyPost_ret (v := .agg #[.bool false, .int .u32 2147483648, .int .u32 2147483648]) (by simp [results, Tryd.results22, go_sem]) rfl ⟨by rw [hpl.out], ((Below.refl _ _).alloc (Nat.le_refl _) _).alloc (by simp) _⟩

theorem eq_agg (r s : RuleD) : (decide (r = s)) = ((r.wide == s.wide) && (((r.code : Int) == (s.code : Int)) && ((r.mask : Int) == (s.mask : Int)))) := by
  obtain ⟨a, b, c⟩ := r
  obtain ⟨x, y, z⟩ := s
  rw [Bool.eq_iff_iff]
  simp only [decide_eq_true_eq, RuleD.mk.injEq, Bool.and_eq_true, beq_iff_eq, Int.natCast_inj]
theorem rule_eql (r s : RuleD) (W : World) : (binOp .eql 38 (.agg #[.bool r.wide, .int .u32 r.code, .int .u32 r.mask]) (.agg #[.bool s.wide, .int .u32 s.code, .int .u32 s.mask])).run Tryd.prog W = .ok (.bool (decide (r = s))) W := by
  rw [eq_agg]
  go_simp
  by_cases h1 : r.wide = s.wide <;> by_cases h2 : (r.code : Int) = (s.code : Int) <;> by_cases h3 : (r.mask : Int) = (s.mask : Int) <;> simp [h1, h2, h3]
theorem rule_neq (r s : RuleD) (W : World) : (binOp .neq 38 (.agg #[.bool r.wide, .int .u32 r.code, .int .u32 r.mask]) (.agg #[.bool s.wide, .int .u32 s.code, .int .u32 s.mask])).run Tryd.prog W = .ok (.bool (!decide (r = s))) W := by
  rw [eq_agg]
  go_simp
  by_cases h1 : r.wide = s.wide <;> by_cases h2 : (r.code : Int) = (s.code : Int) <;> by_cases h3 : (r.mask : Int) = (s.mask : Int) <;> simp [h1, h2, h3]
theorem rule_eql_none (r : RuleD) (W : World) : (binOp .eql 38 (.agg #[.bool r.wide, .int .u32 r.code, .int .u32 r.mask]) (.agg #[.bool false, .int .u32 2147483648, .int .u32 2147483648])).run Tryd.prog W = .ok (.bool (decide (r = noneR))) W := rule_eql r noneR W
theorem rule_neq_none (r : RuleD) (W : World) : (binOp .neq 38 (.agg #[.bool r.wide, .int .u32 r.code, .int .u32 r.mask]) (.agg #[.bool false, .int .u32 2147483648, .int .u32 2147483648])).run Tryd.prog W = .ok (.bool (!decide (r = noneR))) W := rule_neq r noneR W

theorem coversP_form (r s : RuleD) (hr : okRule r) (hs : okRule s) : coversP r s = if decide (r = s) = true then true else if decide (s = noneR) = true then true else if decide (r = noneR) = true then false else if (r.wide == s.wide) = false then false else
    if (bits BinOp.andNot IntKind.u32 (r.mask : Int) (s.mask : Int) == 0) = false then false else (bits BinOp.and IntKind.u32 (bits BinOp.xor IntKind.u32 (r.code : Int) (s.code : Int)) (r.mask : Int) == 0) := by
  have h1 : (bits BinOp.andNot IntKind.u32 (r.mask : Int) (s.mask : Int) == 0) = decide (r.mask &&& (4294967295 - s.mask) = 0) := by
    rw [u32_andNot_nat _ _ hr.2 hs.2, Bool.eq_iff_iff]; simp only [beq_iff_eq, decide_eq_true_eq]; omega
  have h2 : (bits BinOp.and IntKind.u32 (bits BinOp.xor IntKind.u32 (r.code : Int) (s.code : Int)) (r.mask : Int) == 0) = decide ((r.code ^^^ s.code) &&& r.mask = 0) := by
    rw [u32_xor_nat _ _ hr.1 hs.1, u32_and_nat _ _ (Nat.xor_lt_two_pow (n := 32) hr.1 hs.1) hr.2, Bool.eq_iff_iff]; simp only [beq_iff_eq, decide_eq_true_eq]; omega
  rw [h1, h2]
  unfold coversP
  by_cases e1 : r = s
  · rw [if_pos (.inl e1), decide_eq_true e1]; rfl
  by_cases e2 : s = noneR
  · rw [if_pos (.inr e2), decide_eq_true e2]; simp
  rw [if_neg (fun h => h.elim e1 e2), decide_eq_false e1, decide_eq_false e2]
  by_cases e3 : r = noneR
  · simp [e3]
  · cases (r.wide == s.wide) <;> cases decide (r.mask &&& (4294967295 - s.mask) = 0) <;> simp [e3]

set_option maxHeartbeats 1000000 in
theorem covers_any (r s : RuleD) (hr : okRule r) (hs : okRule s) (w : World) (hn : NoneAt w) :
    Calls Tryd.prog 23 #[.agg #[.bool r.wide, .int .u32 r.code, .int .u32 r.mask], .agg #[.bool s.wide, .int .u32 s.code, .int .u32 s.mask]] w fun e w' => e = .returned (.bool (coversP r s)) ∧ Below w.heap.size w w' := by
  have hL := hn.pos
  obtain ⟨n0, n1, n2⟩ := hn
  have q1 := rule_eql r s
  have q2 := rule_eql_none s
  have q3 := rule_neq_none r
  have HF := Lib.hid (coversP_form r s hr hs)
  generalize coversP r s = cv at *
  generalize decide (r = s) = b1 at *
  generalize decide (s = noneR) = b2 at *
  generalize decide (r = noneR) = b3 at *
  generalize hw : (r.wide == s.wide) = b4 at *
  generalize h5 : (bits BinOp.andNot IntKind.u32 (r.mask : Int) (s.mask : Int) == 0) = b5 at *
  have hfin : Below w.heap.size w ((w.alloc (.cells #[.bool r.wide, .int .u32 r.code, .int .u32 r.mask] 38)).alloc (.cells #[.bool s.wide, .int .u32 s.code, .int .u32 s.mask] 38)) := ((Below.refl _ _).alloc (Nat.le_refl _) _).alloc (by simp) _
  have HB := Lib.hid hfin
  clear hfin hr hs
  cases b1
  · cases b2
    · cases b3
      · cases b4
        · go_enter Tryd.func23, Tryd.ntmps23
          go_wp2
          go_ret
          exact ⟨by rw [HF.out]; rfl, HB.out⟩
        · cases b5
          · go_enter Tryd.func23, Tryd.ntmps23
            go_wp2
            go_ret
            exact ⟨by rw [HF.out]; rfl, HB.out⟩
          · go_enter Tryd.func23, Tryd.ntmps23
            go_wp2
            go_ret
            exact ⟨by rw [HF.out]; rfl, HB.out⟩
      · go_enter Tryd.func23, Tryd.ntmps23
        go_wp2
        go_ret
        exact ⟨by rw [HF.out]; rfl, HB.out⟩
    · go_enter Tryd.func23, Tryd.ntmps23
      go_wp2
      go_ret
      exact ⟨by rw [HF.out]; rfl, HB.out⟩
  · go_enter Tryd.func23, Tryd.ntmps23
    go_wp2
    go_ret
    exact ⟨by rw [HF.out]; rfl, HB.out⟩
end Go.Proofs.YtflghgilcooiiaaDoor
