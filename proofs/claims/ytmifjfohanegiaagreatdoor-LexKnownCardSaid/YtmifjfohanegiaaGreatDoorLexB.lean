/-
  lex.number: contract.
-/
import Derived.Test.YtmifjfohanegiaaGreatDoorLexA
import Derived.Test.YtmifjfohanegiaaGreatDoorChrB
import Derived.Deep.Cut
import Derived.Deep.DeepCutAuto
namespace Go.Proofs.YtmifjfohanegiaaGreatDoor
set_option linter.unusedVariables false
open Go.RowKit

def stopN (c : UInt8) : Bool := ltU c.toNat || c == 46
def num3T (s : List UInt8) (n : Nat) : Nat := match s[n]? with
  | some c => if stopN c = true then 0 else n
  | none => n
def num2T (s : List UInt8) (n : Nat) : Nat := match s[n]? with
  | some c => if isEe c = true then (if tw (s.drop (n + 1 + sgnN (s.drop (n + 1)))) = [] then 0 else num3T s (n + 1 + sgnN (s.drop (n + 1)) + (tw (s.drop (n + 1 + sgnN (s.drop (n + 1))))).length)) else num3T s n
  | none => num3T s n
def num1T (s : List UInt8) (n : Nat) : Nat := match s[n]? with
  | some c => if c = 46 then (if tw (s.drop (n + 1)) = [] then 0 else num2T s (n + (1 + (tw (s.drop (n + 1))).length))) else num2T s n
  | none => num2T s n
/-- how many bytes the number has with which a text begins; 0: it isn't as it must be -/
def numN (s : List UInt8) : Nat := num1T s (sgnN s + (tw (s.drop (sgnN s))).length)
theorem sgnN_le (s : List UInt8) : sgnN s ≤ 1 ∧ sgnN s ≤ s.length := by
  cases s with
  | nil => exact ⟨Nat.zero_le _, Nat.le_refl _⟩
  | cons c t => show (if _ then 1 else 0) ≤ 1 ∧ (if _ then 1 else 0) ≤ (c :: t).length; split <;> simp
theorem tw_lenA (l : List UInt8) : (tw l).length ≤ l.length := by
  unfold tw; exact (List.takeWhile_sublist _).length_le
theorem at_some {s : List UInt8} {n : Nat} (h : n < s.length) : s[n]? = some s[n] := List.getElem?_eq_getElem h
theorem at_none {s : List UInt8} {n : Nat} (h : ¬ n < s.length) : s[n]? = none := List.getElem?_eq_none (by omega)
theorem num3_end {s : List UInt8} {n : Nat} (h : ¬ n < s.length) : num3T s n = n := by unfold num3T; rw [at_none h]
theorem num2_end {s : List UInt8} {n : Nat} (h : ¬ n < s.length) : num2T s n = n := by unfold num2T; rw [at_none h]; exact num3_end h
theorem num1_end {s : List UInt8} {n : Nat} (h : ¬ n < s.length) : num1T s n = n := by unfold num1T; rw [at_none h]; exact num2_end h
theorem byte_ne {c : UInt8} {m : Nat} (hm : m < 256) (h : c ≠ UInt8.ofNat m) : ((c.toNat : Int) == (m : Int)) = false := by
  rw [beq_eq_false_iff_ne]; intro e; exact h (UInt8.toNat.inj (by rw [UInt8.toNat_ofNat_of_lt' (by simpa using hm)]; omega))

set_option maxRecDepth 100000 in
set_option maxHeartbeats 4000000 in
theorem number_any (s : List UInt8) (hs : s.length ≤ 1000000000) (w : World) :
    Calls Tryz.prog 44 #[.string ⟨s.toArray⟩] w fun e w' => e = .returned (.int .i64 (numN s : Nat)) ∧ Below w.heap.size w w' := by
  obtain ⟨T, hT⟩ : ∃ T, T = numN s := ⟨_, rfl⟩
  rw [← hT]
  have HT := Lib.hid hT
  clear hT
  have csg := fun (n : Nat) w => signed_any (s.drop n) w
  have cdg := fun (n : Nat) w => digitsN_any (s.drop n) (by rw [List.length_drop]; omega) w
  have hex := fun (n : Nat) (hn : n ≤ s.length) => ext_from s n hn
  have CSG := Lib.hid csg
  have CDG := Lib.hid cdg
  have HEX := Lib.hid hex
  clear csg cdg hex
  have c0 := CSG.out 0
  rw [List.drop_zero] at c0
  obtain ⟨g1, g2⟩ := sgnN_le s
  go_enter Tryz.func44, Tryz.ntmps44
  go_wp2_with fail
  with_reducible refine (c0 _).mono ?_
  rintro e w1 ⟨rfl, rfl⟩
  clear c0
  have c1 := CDG.out (sgnN s)
  have x1 := HEX.out (sgnN s) g2
  have tl := tw_lenA (s.drop (sgnN s))
  rw [List.length_drop] at tl
  have HN := Lib.hid (show T = num1T s (sgnN s + (tw (s.drop (sgnN s))).length) from HT.out)
  clear HT
  generalize sgnN s = a at *
  generalize (tw (s.drop a)).length = b at *
  go_wp2_with fail
  with_reducible refine (c1 _).mono ?_
  rintro e w2 ⟨rfl, hb2⟩
  clear c1 x1
  have hn1 : a + b ≤ s.length := by omega
  have HB2 := Lib.hid hb2
  clear hb2 g1 g2 tl
  obtain ⟨n1, hn⟩ : ∃ n1, n1 = a + b := ⟨_, rfl⟩
  rw [← hn] at HN hn1
  have hcast : (a : Int) + (b : Int) = (n1 : Nat) := by omega
  clear hn
  obtain ⟨w0, hw0⟩ : ∃ x, x = w1 := ⟨_, rfl⟩
  subst hw0
  by_cases hlt : (n1 : Int) < s.length
  · have hlt' : n1 < s.length := by omega
    have hget : (⟨s.toArray⟩ : ByteArray)[n1]'hlt' = s[n1] := rfl
    have hS := HN.out
    unfold num1T at hS
    rw [at_some hlt'] at hS
    simp only at hS
    have HN1 := Lib.hid hS
    clear HN hS
    generalize s[n1] = c at *
    go_upto_if 23 with (fail)
    clear hcast
    go_cut [3] (fun x ws => ∃ n : Nat, x = .int .i64 (n : Nat) ∧ n ≤ s.length ∧ T = num2T s n ∧ Below w0.heap.size w0 ws)
    case first =>
      have hS := HN1.out
      clear HN1
      by_cases hc : c = 46
      · rw [if_pos hc] at hS
        have g46 : ((c.toNat : Int) == 46) = true := by rw [hc]; rfl
        have cd := CDG.out (n1 + 1)
        have hx := HEX.out (n1 + 1) (by omega)
        have tl := tw_lenA (s.drop (n1 + 1))
        rw [List.length_drop] at tl
        clear hc
        by_cases h0 : tw (s.drop (n1 + 1)) = []
        · rw [if_pos h0] at hS
          rw [h0] at cd
          have HS := Lib.hid hS
          clear h0 hS tl
          go_wp2_with fail
          with_reducible refine (cd _).mono ?_
          rintro e w3 ⟨rfl, hb⟩
          have HB3 := Lib.hid (bstep HB2.out hb (Nat.le_refl _))
          clear hb cd
          go_wp2_with fail
          go_ret
          exact ⟨by rw [HS.out] <;> rfl, HB3.out⟩
        · rw [if_neg h0] at hS
          have hk : 0 < (tw (s.drop (n1 + 1))).length := List.length_pos_iff.2 h0
          generalize (tw (s.drop (n1 + 1))).length = k at *
          have HS := Lib.hid hS
          have hk0 : ((k : Int) == 0) = false := by rw [beq_eq_false_iff_ne]; omega
          clear h0 hS
          go_wp2_with fail
          with_reducible refine (cd _).mono ?_
          rintro e w3 ⟨rfl, hb⟩
          have HB3 := Lib.hid (bstep HB2.out hb (Nat.le_refl _))
          clear hb cd
          go_wp2_with fail
          go_meet
          case rel => exact ⟨n1 + (1 + k), by first | rfl | go_num, by omega, HS.out, HB3.out⟩
      · rw [if_neg hc] at hS
        have g46 : ((c.toNat : Int) == 46) = false := byte_ne (m := 46) (by decide) hc
        have HS := Lib.hid hS
        clear hc hS
        go_wp2_with fail
        go_meet
        case rel => exact ⟨n1, by first | rfl | go_num, hn1, HS.out, HB2.out⟩
    case rest =>
      clear HN1 HB2 hn1 hlt hlt' hget
      obtain ⟨n2, rfl, hn2, hT2, hbw⟩ := hcut
      have HN := Lib.hid hT2
      have HB2 := Lib.hid hbw
      clear hT2 hbw
      obtain ⟨w2, hw2⟩ : ∃ x, x = wc := ⟨_, rfl⟩
      subst hw2
      by_cases hlt : (n2 : Int) < s.length
      · have hlt' : n2 < s.length := by omega
        have hget : (⟨s.toArray⟩ : ByteArray)[n2]'hlt' = s[n2] := rfl
        have hS := HN.out
        unfold num2T at hS
        rw [at_some hlt'] at hS
        simp only at hS
        clear HN
        by_cases hc : isEe s[n2] = true
        · rw [if_pos hc] at hS
          have hcc : ((s[n2].toNat : Int) == 101) = true ∨ (((s[n2].toNat : Int) == 101) = false ∧ ((s[n2].toNat : Int) == 69) = true) := by
            unfold isEe at hc
            rw [Bool.or_eq_true, beq_iff_eq, beq_iff_eq] at hc
            rcases hc with h | h
            · left; rw [h]; rfl
            · right; rw [h]; exact ⟨rfl, rfl⟩
          generalize s[n2] = c2 at *
          have cs := CSG.out (n2 + 1)
          have hx1 := HEX.out (n2 + 1) (by omega)
          obtain ⟨s1, s2⟩ := sgnN_le (s.drop (n2 + 1))
          rw [List.length_drop] at s2
          have hm : n2 + 1 + sgnN (s.drop (n2 + 1)) ≤ s.length := by omega
          have cd := CDG.out (n2 + 1 + sgnN (s.drop (n2 + 1)))
          have hx2 := HEX.out (n2 + 1 + sgnN (s.drop (n2 + 1))) hm
          have tl := tw_lenA (s.drop (n2 + 1 + sgnN (s.drop (n2 + 1))))
          rw [List.length_drop] at tl
          generalize sgnN (s.drop (n2 + 1)) = sg at *
          clear hc
          by_cases h0 : tw (s.drop (n2 + 1 + sg)) = []
          · rw [if_pos h0] at hS
            rw [h0] at cd
            have HS := Lib.hid hS
            clear h0 hS tl
            rcases hcc with g1 | ⟨g1, g2⟩
            all_goals
              go_wp2_with fail
              with_reducible refine (cs _).mono ?_
              rintro e w3 ⟨rfl, rfl⟩
              go_wp2_with fail
              with_reducible refine (cd _).mono ?_
              rintro e w3 ⟨rfl, hb⟩
              have HB3 := Lib.hid (bstep HB2.out hb (Nat.le_refl _))
              clear hb cd
              go_wp2_with fail
              go_ret
              exact ⟨by rw [HS.out] <;> rfl, HB3.out⟩
          · rw [if_neg h0] at hS
            have hk : 0 < (tw (s.drop (n2 + 1 + sg))).length := List.length_pos_iff.2 h0
            generalize (tw (s.drop (n2 + 1 + sg))).length = k at *
            have HN := Lib.hid hS
            have hk0 : ((k : Int) == 0) = false := by rw [beq_eq_false_iff_ne]; omega
            obtain ⟨n3, hn3⟩ : ∃ n3, n3 = n2 + 1 + sg + k := ⟨_, rfl⟩
            rw [← hn3] at HN
            have hle3 : n3 ≤ s.length := by omega
            clear h0 hS
            rcases hcc with g1 | ⟨g1, g2⟩
            · go_wp2_with fail
              with_reducible refine (cs _).mono ?_
              rintro e w3 ⟨rfl, rfl⟩
              go_wp2_with fail
              with_reducible refine (cd _).mono ?_
              rintro e w3 ⟨rfl, hb⟩
              have HB3 := Lib.hid (bstep HB2.out hb (Nat.le_refl _))
              clear hb cd
              have hcast : (n2 : Int) + 1 + (sg : Int) + (k : Int) = (n3 : Nat) := by omega
              have hn3' : n2 + 1 + sg + k = n3 := hn3.symm
              clear hn3
              by_cases hlt3 : (n3 : Int) < s.length
              · have hlt' : n3 < s.length := by omega
                have hget : (⟨s.toArray⟩ : ByteArray)[n3]'hlt' = s[n3] := rfl
                have hS := HN.out
                unfold num3T at hS
                rw [at_some hlt'] at hS
                simp only at hS
                generalize s[n3] = c3 at *
                have cl := letter_any c3.toNat
                have hw : IntKind.i32.wrap (c3.toNat : Int) = (c3.toNat : Int) := by
                  have := UInt8.toNat_lt c3
                  unfold IntKind.wrap; simp [IntKind.bits, IntKind.signed]; omega
                cases hl : ltU c3.toNat
                · rw [hl] at cl
                  by_cases hc : c3 = 46
                  · rw [if_pos (by unfold stopN; rw [hc]; rfl)] at hS
                    have g46 : ((c3.toNat : Int) == 46) = true := by rw [hc]; rfl
                    have HS := Lib.hid hS
                    clear hc hS HN hl
                    go_wp2_with fail
                    with_reducible refine (cl _).mono ?_
                    rintro e w3 ⟨rfl, rfl⟩
                    go_wp2_with fail
                    go_ret
                    exact ⟨by rw [HS.out] <;> rfl, HB3.out⟩
                  · rw [if_neg (by unfold stopN; rw [hl]; simpa using hc)] at hS
                    have g46 : ((c3.toNat : Int) == 46) = false := byte_ne (m := 46) (by decide) hc
                    have HS := Lib.hid hS
                    clear hc hS HN hl
                    go_wp2_with fail
                    with_reducible refine (cl _).mono ?_
                    rintro e w3 ⟨rfl, rfl⟩
                    go_wp2_with fail
                    go_ret
                    exact ⟨by rw [HS.out] <;> rfl, HB3.out⟩
                · rw [hl] at cl
                  rw [if_pos (by unfold stopN; rw [hl]; rfl)] at hS
                  have HS := Lib.hid hS
                  clear hS HN hl
                  go_wp2_with fail
                  with_reducible refine (cl _).mono ?_
                  rintro e w3 ⟨rfl, rfl⟩
                  go_wp2_with fail
                  go_ret
                  exact ⟨by rw [HS.out] <;> rfl, HB3.out⟩
              · have HS := Lib.hid (show T = n3 by rw [HN.out]; exact num3_end (by omega))
                clear HN
                go_wp2_with fail
                go_ret
                exact ⟨by rw [HS.out] <;> rfl, HB3.out⟩
            · go_wp2_with fail
              with_reducible refine (cs _).mono ?_
              rintro e w3 ⟨rfl, rfl⟩
              go_wp2_with fail
              with_reducible refine (cd _).mono ?_
              rintro e w3 ⟨rfl, hb⟩
              have HB3 := Lib.hid (bstep HB2.out hb (Nat.le_refl _))
              clear hb cd
              have hcast : (n2 : Int) + 1 + (sg : Int) + (k : Int) = (n3 : Nat) := by omega
              have hn3' : n2 + 1 + sg + k = n3 := hn3.symm
              clear hn3
              by_cases hlt3 : (n3 : Int) < s.length
              · have hlt' : n3 < s.length := by omega
                have hget : (⟨s.toArray⟩ : ByteArray)[n3]'hlt' = s[n3] := rfl
                have hS := HN.out
                unfold num3T at hS
                rw [at_some hlt'] at hS
                simp only at hS
                generalize s[n3] = c3 at *
                have cl := letter_any c3.toNat
                have hw : IntKind.i32.wrap (c3.toNat : Int) = (c3.toNat : Int) := by
                  have := UInt8.toNat_lt c3
                  unfold IntKind.wrap; simp [IntKind.bits, IntKind.signed]; omega
                cases hl : ltU c3.toNat
                · rw [hl] at cl
                  by_cases hc : c3 = 46
                  · rw [if_pos (by unfold stopN; rw [hc]; rfl)] at hS
                    have g46 : ((c3.toNat : Int) == 46) = true := by rw [hc]; rfl
                    have HS := Lib.hid hS
                    clear hc hS HN hl
                    go_wp2_with fail
                    with_reducible refine (cl _).mono ?_
                    rintro e w3 ⟨rfl, rfl⟩
                    go_wp2_with fail
                    go_ret
                    exact ⟨by rw [HS.out] <;> rfl, HB3.out⟩
                  · rw [if_neg (by unfold stopN; rw [hl]; simpa using hc)] at hS
                    have g46 : ((c3.toNat : Int) == 46) = false := byte_ne (m := 46) (by decide) hc
                    have HS := Lib.hid hS
                    clear hc hS HN hl
                    go_wp2_with fail
                    with_reducible refine (cl _).mono ?_
                    rintro e w3 ⟨rfl, rfl⟩
                    go_wp2_with fail
                    go_ret
                    exact ⟨by rw [HS.out] <;> rfl, HB3.out⟩
                · rw [hl] at cl
                  rw [if_pos (by unfold stopN; rw [hl]; rfl)] at hS
                  have HS := Lib.hid hS
                  clear hS HN hl
                  go_wp2_with fail
                  with_reducible refine (cl _).mono ?_
                  rintro e w3 ⟨rfl, rfl⟩
                  go_wp2_with fail
                  go_ret
                  exact ⟨by rw [HS.out] <;> rfl, HB3.out⟩
              · have HS := Lib.hid (show T = n3 by rw [HN.out]; exact num3_end (by omega))
                clear HN
                go_wp2_with fail
                go_ret
                exact ⟨by rw [HS.out] <;> rfl, HB3.out⟩
        · rw [if_neg hc] at hS
          have g1 : ((s[n2].toNat : Int) == 101) = false := byte_ne (m := 101) (by decide) (fun h => hc (by rw [h]; rfl))
          have g2 : ((s[n2].toNat : Int) == 69) = false := byte_ne (m := 69) (by decide) (fun h => hc (by rw [h]; rfl))
          have HN := Lib.hid hS
          clear hc hS
          have hS := HN.out
          unfold num3T at hS
          rw [at_some hlt'] at hS
          simp only at hS
          generalize s[n2] = c3 at *
          have cl := letter_any c3.toNat
          have hw : IntKind.i32.wrap (c3.toNat : Int) = (c3.toNat : Int) := by
            have := UInt8.toNat_lt c3
            unfold IntKind.wrap; simp [IntKind.bits, IntKind.signed]; omega
          cases hl : ltU c3.toNat
          · rw [hl] at cl
            by_cases hc : c3 = 46
            · rw [if_pos (by unfold stopN; rw [hc]; rfl)] at hS
              have g46 : ((c3.toNat : Int) == 46) = true := by rw [hc]; rfl
              have HS := Lib.hid hS
              clear hc hS HN hl
              go_wp2_with fail
              with_reducible refine (cl _).mono ?_
              rintro e w3 ⟨rfl, rfl⟩
              go_wp2_with fail
              go_ret
              exact ⟨by rw [HS.out] <;> rfl, HB2.out⟩
            · rw [if_neg (by unfold stopN; rw [hl]; simpa using hc)] at hS
              have g46 : ((c3.toNat : Int) == 46) = false := byte_ne (m := 46) (by decide) hc
              have HS := Lib.hid hS
              clear hc hS HN hl
              go_wp2_with fail
              with_reducible refine (cl _).mono ?_
              rintro e w3 ⟨rfl, rfl⟩
              go_wp2_with fail
              go_ret
              exact ⟨by rw [HS.out] <;> rfl, HB2.out⟩
          · rw [hl] at cl
            rw [if_pos (by unfold stopN; rw [hl]; rfl)] at hS
            have HS := Lib.hid hS
            clear hS HN hl
            go_wp2_with fail
            with_reducible refine (cl _).mono ?_
            rintro e w3 ⟨rfl, rfl⟩
            go_wp2_with fail
            go_ret
            exact ⟨by rw [HS.out] <;> rfl, HB2.out⟩
      · have HS := Lib.hid (show T = n2 by rw [HN.out]; exact num2_end (by omega))
        clear HN
        go_wp2_with fail
        go_ret
        exact ⟨by rw [HS.out] <;> rfl, HB2.out⟩
  · have HS := Lib.hid (show T = n1 by rw [HN.out]; exact num1_end (by omega))
    clear HN
    go_wp2_with fail
    go_ret
    exact ⟨by rw [HS.out] <;> rfl, HB2.out⟩

end Go.Proofs.YtmifjfohanegiaaGreatDoor
