/-
  The walk of FilterNeeded.
-/
import Derived.Test.YtflghgilcooiiaaDoorFilterS
import Derived.StillTailTactics
import Derived.BigQuiet
namespace Go.Proofs.YtflghgilcooiiaaDoor
set_option linter.unusedVariables false
open Go.RowKit

theorem twice_at (l : List RuleD) (i : Nat) (h0 : 0 < l.length) (h : i < l.length + l.length) : (l ++ l).take (i + 1) = (l ++ l).take i ++ [l[i % l.length]'(Nat.mod_lt _ h0)] := by
  rw [List.take_succ_eq_append_getElem (by rw [List.length_append]; exact h)]
  congr 2
  by_cases hi : i < l.length
  · rw [List.getElem_append_left hi]
    congr 1
    exact (Nat.mod_eq_of_lt hi).symm
  · rw [List.getElem_append_right (by omega)]
    congr 1
    rw [Nat.mod_eq_sub_mod (by omega), Nat.mod_eq_of_lt (by omega)]

set_option maxRecDepth 100000 in
set_option maxHeartbeats 2000000 in
theorem filterNeeded_walk (l : List RuleD) (hl : ∀ r ∈ l, okRule r) (a : Option Addr) (cap : Nat) (w : World) (hno : NoneAt w) (hs : SlR w a cap l) (hr : l.length * 12 ≤ 140737488351232) :
    Calls Tryd.prog 5 #[.slice a l.length cap] w fun e w' => e = .returned (.bool true) ∧ Below w.heap.size w w' := by
  have hp := hno.pos
  have h1 := hs.len
  have HL := Lib.hid hl
  have HLE := Lib.hid (less_ok l hl)
  clear hl
  by_cases hbig : (100 : Int) < l.length
  · go_enter Tryd.func5, Tryd.ntmps5
    go_wp2_with fail
    refine (works_any _ hno).mono ?_
    rintro e w1 ⟨rfl, hb1⟩
    go_wp2_with fail
    go_ret
    exact ⟨rfl, hb1⟩
  · go_enter Tryd.func5, Tryd.ntmps5
    go_wp2_with fail
    refine (less_any l HL.out _ rfl _ _ _ hno hs hr).mono ?_
    rintro e w1 ⟨v, rfl, hb1, ho⟩
    obtain ⟨am, cm, rfl, hm⟩ := ho.shape
    have hml := hm.len
    have hlen : (lessN l).length ≤ l.length := less_le l
    have HA := Lib.hid (less_apart l)
    have HG := Lib.hid (less_again l)
    have HT := Lib.hid (less_twice l)
    clear ho
    generalize lessN l = m at *
    go_wp2_with fail
    go_loopw [4] (fun x wr => ∃ i : Nat, i ≤ m.length ∧ x = .int .i64 (i : Nat) ∧ Below w1.heap.size w1 wr) (fun x _ => m.length - (intOf x).toNat)
    case atStart => exact ⟨0, Nat.zero_le _, rfl, Below.refl _ _⟩
    case round =>
      obtain ⟨i, hi, rfl, hbi⟩ := hrel
      by_cases hil : i < m.length
      · go_wp2_with fail
        go_loopw [5] (fun x wr => ∃ k : Nat, k ≤ m.length ∧ x = .int .i64 (k : Nat) ∧ Below w1.heap.size w1 wr) (fun x _ => m.length - (intOf x).toNat)
        case atStart => exact ⟨0, Nat.zero_le _, rfl, hbi⟩
        case round =>
          clear hbi
          obtain ⟨k, hk, rfl, hbk⟩ := hrel
          by_cases hkl : k < m.length
          · obtain ⟨ba, oa, rfl, hba, hc0, hc1, hc2⟩ := SlR.at (hm.keep hbk (Nat.le_refl _)) hil
            obtain ⟨ba', oa', e, hba', hd0, hd1, hd2⟩ := SlR.at (hm.keep hbk (Nat.le_refl _)) hkl
            cases e
            by_cases hik : (i : Int) = k
            · have hik' : i = k := by omega
              subst hik'
              go_wp2_with fail
              go_quiet (fail)
              go_wp2_with fail
              go_roundw
              case rel => exact ⟨i + 1, by omega, by go_num, below_drewN hbk _⟩
              case measure => simp [intOf]; omega
            · have hik' : i ≠ k := by omega
              have hne : ((i : Int) != k) = true := by rw [bne_iff_ne]; exact hik
              have hap := apart_of m[i] m[k] (HLE.out _ (List.getElem_mem hil)) (HLE.out _ (List.getElem_mem hkl)) (HA.out i k hil hkl hik')
              have hct := fun w => apart_any m[i] m[k] (HLE.out _ (List.getElem_mem hil)) (HLE.out _ (List.getElem_mem hkl)) w
              rw [hap] at hct
              have HCT := Lib.hid hct
              clear hap hct
              generalize m[i] = ri at *
              generalize m[k] = rk at *
              go_wp2_with fail
              go_still_tail 12, (by kernel_rfl)
              change wpList _ _ _ _ _ wr.drew
              go_wp2_with fail
              refine (HCT.out _).mono ?_
              rintro e w2 ⟨rfl, hb2⟩
              have hb3 := bstep hbk.drew hb2 (Nat.le_refl _)
              go_wp2_with fail
              go_roundw
              case rel => exact ⟨k + 1, by omega, by go_num, hb3⟩
              case measure => simp [intOf]; omega
          · obtain rfl : k = m.length := by omega
            go_wp2_with fail
            go_roundw
            case rel => exact ⟨i + 1, by omega, by go_num, hbk⟩
            case measure => simp [intOf]; omega
      · obtain rfl : i = m.length := by omega
        have hbw := bstep hb1 hbi (Nat.le_refl _)
        have hm2 := hm.keep hbi (Nat.le_refl _)
        go_wp2_with fail
        go_loopw [6, 7] (fun v x ws => ∃ i : Nat, i ≤ l.length + l.length ∧ x = .int .i64 (i : Nat) ∧ Below wr.heap.size wr ws ∧ Owns ws wr.heap.size 38 3 enRule v ((l ++ l).take i)) (fun _ x _ => l.length + l.length - (intOf x).toNat)
        case atStart => exact ⟨0, Nat.zero_le _, rfl, Below.refl _ _, by simpa using Owns.nil _ _ _ _ _⟩
        case round =>
          obtain ⟨i, hi, rfl, hbs, hown⟩ := hrel
          have hbz := bstep hbw hbs (Nat.le_refl _)
          by_cases hlt : i < l.length + l.length
          · have h0 : 0 < l.length := by omega
            have hir : i % l.length < l.length := Nat.mod_lt _ h0
            obtain ⟨bl, ol, rfl, hbl, hc0, hc1, hc2⟩ := SlR.at (hs.keep hbz (Nat.le_refl _)) hir
            have hmod : (i : Int).tmod (l.length : Int) = ((i % l.length : Nat) : Int) := rfl
            have HTW := Lib.hid (twice_at l i h0 hlt)
            have hltt : ((l ++ l).take i).length = i := by rw [List.length_take, List.length_append]; omega
            have HLT := Lib.hid hltt
            clear hltt
            generalize l[i % l.length] = r at *
            generalize i % l.length = ir at *
            have hnz : ((l.length : Int) == 0) = false := by rw [beq_eq_false_iff_ne]; omega
            go_wp2_with (at_builtin; go_loud (refine wpList_append_elem rules_ty ((l ++ l).take i) r hown hbs (Nat.le_refl _) (by rw [HLT.out]; omega) ?_ (hone := by simp [enRule, Value.oneCell'])))
            intro v' w5 hown5 hb7
            clear hown hbs hc0 hc1 hc2
            go_wp2_with fail
            go_roundw
            case rel => exact ⟨i + 1, by omega, by go_num, hb7, by rw [HTW.out]; exact hown5⟩
            case measure => simp [intOf]; omega
          · obtain rfl : i = l.length + l.length := by omega
            have hbl2 := hm2.keep hbs (Nat.le_refl _)
            rw [List.take_of_length_le (by rw [List.length_append]; exact Nat.le_refl _)] at hown
            obtain ⟨at2, ct2, rfl, hst⟩ := hown.shape
            have hL2 : Hid ((l ++ l).length = l.length + l.length) := Lib.hid (by simp)
            rw [hL2.out]
            clear hown hm2 hm
            have HLL : Hid (∀ r ∈ l ++ l, okRule r) := Lib.hid (fun r hr => by
              rcases List.mem_append.1 hr with h | h
              · exact HL.out r h
              · exact HL.out r h)
            go_wp2_with fail
            refine (works_any _ (hno.keep hbz hp)).mono ?_
            rintro e w2 ⟨rfl, hb8⟩
            have hb9 := bstep hbz hb8 (Nat.le_refl _)
            have hm3 := hbl2.keep hb8 (Nat.le_refl _)
            have ht3 := hst.keep hb8 (Nat.le_refl _)
            clear hbl2 hst hbz hb8
            go_wp2_with fail
            refine (less_any m HLE.out _ rfl _ _ _ (hno.keep hb9 hp) hm3 (by omega)).mono ?_
            rintro e w3 ⟨v3, rfl, hb10, ho3⟩
            rw [HG.out] at ho3
            obtain ⟨a3, c3, rfl, hs3⟩ := ho3.shape
            have hb11 := bstep hb9 hb10 (Nat.le_refl _)
            have hm4 := hm3.keep hb10 (Nat.le_refl _)
            have ht4 := ht3.keep hb10 (Nat.le_refl _)
            clear hm3 ht3 hb9 hb10 ho3
            go_wp2_with fail
            refine (sameRules_any m _ _ rfl rfl _ _ _ _ _ hs3 hm4).mono ?_
            rintro e w4 ⟨rfl, hb12⟩
            have hb13 := bstep hb11 hb12 (Nat.le_refl _)
            have hm5 := hm4.keep hb12 (Nat.le_refl _)
            have ht5 := ht4.keep hb12 (Nat.le_refl _)
            clear hm4 ht4 hb11 hb12 hs3
            go_wp2_with fail
            refine (less_any (l ++ l) HLL.out _ hL2.out.symm _ _ _ (hno.keep hb13 hp) ht5 (by rw [hL2.out]; omega)).mono ?_
            rintro e w5 ⟨v5, rfl, hb14, ho5⟩
            rw [HT.out] at ho5
            obtain ⟨a5, c5, rfl, hs5⟩ := ho5.shape
            have hb15 := bstep hb13 hb14 (Nat.le_refl _)
            have hm6 := hm5.keep hb14 (Nat.le_refl _)
            clear hm5 ht5 hb13 hb14 ho5
            go_wp2_with fail
            refine (sameRules_any m _ _ rfl rfl _ _ _ _ _ hs5 hm6).mono ?_
            rintro e w6 ⟨rfl, hb16⟩
            go_wp2_with fail
            go_ret
            exact ⟨rfl, bstep hb15 hb16 (Nat.le_refl _)⟩
end Go.Proofs.YtflghgilcooiiaaDoor
