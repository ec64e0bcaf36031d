/-
  The walk of LexLines.
-/
import Derived.Test.YtmifjfohanegiaaGreatDoorLexK
import Derived.Test.YtmifjfohanegiaaGreatDoorRlxM

namespace Go.Proofs.YtmifjfohanegiaaGreatDoor
set_option linter.unusedVariables false
open Go.RowKit Go.Shelf

theorem strs_app (A B : List UInt8) : (⟨A.toArray⟩ : ByteArray) ++ ⟨B.toArray⟩ = ⟨(A ++ B).toArray⟩ := by
  have h : ∀ (a b : ByteArray), a.data.toList = b.data.toList → a = b := fun a b e => by cases a; cases b; simp at e; rw [e]
  apply h
  simp [ByteArray.data_append]

set_option maxRecDepth 100000 in
set_option maxHeartbeats 8000000 in
theorem lines_any (a b : List UInt8) (ha : a.length ≤ 9223372036854775807) (hb0 : b.length ≤ 9223372036854775807) (w : World) (hT : TabsU w) :
    Calls Tryz.prog 36 #[.string ⟨a.toArray⟩, .string ⟨b.toArray⟩] w fun e w' => e = .returned (.bool true) ∧ Below w.heap.size w w' := by
  have HT := Lib.hid hT
  have ca := scan_any a (by omega) w hT
  have cb := fun W hW => scan_any b (by omega) W hW
  clear hT
  cases hsa : scanL a with
  | bad v =>
    obtain ⟨T, d, rfl⟩ := scanL_bad hsa
    rw [hsa] at ca
    cases hsb : scanL b with
    | bad v =>
      obtain ⟨T2, d2, rfl⟩ := scanL_bad hsb
      rw [hsb] at cb
      clear hsa hsb
      go_enter Tryz.func36, Tryz.ntmps36
      go_wp2_with fail
      with_reducible refine (ca).mono ?_
      rintro e w1 ⟨rfl, hb1⟩
      have HT1 := Lib.hid (HT.out.keep hb1)
      have HB1 := Lib.hid hb1
      clear hb1 ca
      go_wp2_with fail
      with_reducible refine (cb _ HT1.out).mono ?_
      rintro e w2 ⟨rfl, hb2⟩
      have HT2 := Lib.hid (HT1.out.keep hb2)
      have HB2 := Lib.hid (bstep HB1.out hb2 (Nat.le_refl _))
      clear hb2 cb
      go_wp2_with fail
      with_reducible refine (works_any _ HT2.out).mono ?_
      rintro e w3 ⟨rfl, hb3⟩
      have HB3 := Lib.hid (bstep HB2.out hb3 (Nat.le_refl _))
      clear hb3
      go_wp2_with fail
      go_ret
      exact ⟨rfl, HB3.out⟩
    | good m =>
      rw [hsb] at cb
      clear hsa hsb
      go_enter Tryz.func36, Tryz.ntmps36
      go_wp2_with fail
      with_reducible refine (ca).mono ?_
      rintro e w1 ⟨rfl, hb1⟩
      have HT1 := Lib.hid (HT.out.keep hb1)
      have HB1 := Lib.hid hb1
      clear hb1 ca
      go_wp2_with fail
      with_reducible refine (cb _ HT1.out).mono ?_
      rintro e w2 ⟨am, cm, rfl, _, hb2⟩
      have HT2 := Lib.hid (HT1.out.keep hb2)
      have HB2 := Lib.hid (bstep HB1.out hb2 (Nat.le_refl _))
      clear hb2 cb
      go_wp2_with fail
      with_reducible refine (works_any _ HT2.out).mono ?_
      rintro e w3 ⟨rfl, hb3⟩
      have HB3 := Lib.hid (bstep HB2.out hb3 (Nat.le_refl _))
      clear hb3
      go_wp2_with fail
      go_ret
      exact ⟨rfl, HB3.out⟩
  | good l =>
    rw [hsa] at ca
    cases hsb : scanL b with
    | bad v =>
      obtain ⟨T2, d2, rfl⟩ := scanL_bad hsb
      rw [hsb] at cb
      clear hsa hsb
      go_enter Tryz.func36, Tryz.ntmps36
      go_wp2_with fail
      with_reducible refine (ca).mono ?_
      rintro e w1 ⟨al, cl, rfl, _, hb1⟩
      have HT1 := Lib.hid (HT.out.keep hb1)
      have HB1 := Lib.hid hb1
      clear hb1 ca
      go_wp2_with fail
      with_reducible refine (cb _ HT1.out).mono ?_
      rintro e w2 ⟨rfl, hb2⟩
      have HT2 := Lib.hid (HT1.out.keep hb2)
      have HB2 := Lib.hid (bstep HB1.out hb2 (Nat.le_refl _))
      clear hb2 cb
      go_wp2_with fail
      with_reducible refine (works_any _ HT2.out).mono ?_
      rintro e w3 ⟨rfl, hb3⟩
      have HB3 := Lib.hid (bstep HB2.out hb3 (Nat.le_refl _))
      clear hb3
      go_wp2_with fail
      go_ret
      exact ⟨rfl, HB3.out⟩
    | good m =>
      obtain ⟨a1, a2, a3, -⟩ := scanL_bd hsa
      obtain ⟨b1, b2, -, b4⟩ := scanL_bd hsb
      have hpl := lines_plain hsa hsb
      rw [hsb] at cb
      have HPL := Lib.hid hpl
      have HB4 := Lib.hid b4
      clear hsa hsb hpl b4 ha hb0
      go_enter Tryz.func36, Tryz.ntmps36
      go_wp2_with fail
      with_reducible refine (ca).mono ?_
      rintro e w1 ⟨al, cl, rfl, hol, hb1⟩
      have HT1 := Lib.hid (HT.out.keep hb1)
      have HL1 := Lib.hid hol.sl.2
      have HB1 := Lib.hid hb1
      clear hb1 ca hol
      go_wp2_with fail
      with_reducible refine (cb _ HT1.out).mono ?_
      rintro e w2 ⟨am, cm, rfl, hom, hb2⟩
      have HT2 := Lib.hid (HT1.out.keep hb2)
      have HL2 := Lib.hid (SlOf.keep HL1.out hb2 (Nat.le_refl _))
      have HM2 := Lib.hid hom.sl.2
      have HB2 := Lib.hid (bstep HB1.out hb2 (Nat.le_refl _))
      clear hb2 cb hom
      go_wp2_with fail
      with_reducible refine (works_any _ HT2.out).mono ?_
      rintro e w3 ⟨rfl, hb3⟩
      have HT3 := Lib.hid (HT2.out.keep hb3)
      have HL3 := Lib.hid (SlOf.keep HL2.out hb3 (Nat.le_refl _))
      have HM3 := Lib.hid (SlOf.keep HM2.out hb3 (Nat.le_refl _))
      have HB3 := Lib.hid (bstep HB2.out hb3 (Nat.le_refl _))
      clear hb3
      have HA1 := Lib.hid a1
      have HB1' := Lib.hid b1
      have HA2 := Lib.hid a2
      have HB2' := Lib.hid b2
      clear a1 b1 a2 b2
      by_cases hx : (1048576 : Int) ≤ a.length
      · go_wp2_with fail
        go_ret
        exact ⟨rfl, HB3.out⟩
      have gx1 : decide ((1048576 : Int) ≤ (a.length : Nat)) = false := decide_eq_false hx
      have HX := Lib.hid hx
      clear hx
      obtain ⟨z, hz⟩ : ∃ z : Int, z = 1048576 - (a.length : Int) := ⟨_, rfl⟩
      have hwS : IntKind.i64.wrap (1048576 - (a.length : Int)) = z := by
        have hx := HX.out; rw [hz]; unfold IntKind.wrap; simp [IntKind.bits, IntKind.signed]; omega
      have HZ := Lib.hid hz
      clear hz
      cases hy : decide (z ≤ b.length)
      case true =>
        go_wp2_with fail
        go_ret
        exact ⟨rfl, HB3.out⟩
      case false =>
        have HY := Lib.hid (of_decide_eq_false hy)
        go_wp2_with fail
        clear gx1 hy hwS
        go_loopw [9, 10] (fun ln i wr => ∃ k : Nat, k ≤ a.length ∧ i = .int .i64 k ∧ ln = .int .i64 (1 + (((a.take k).count 10 : Nat) : Int)) ∧ Below w3.heap.size w3 wr) (fun _ i _ => a.length - (intOf i).toNat)
        case atStart => exact ⟨0, Nat.zero_le _, rfl, rfl, Below.refl _ _⟩
        case round =>
          obtain ⟨k, hk, rfl, rfl, hbel0⟩ := hrel
          have HBL0 := Lib.hid hbel0
          clear hbel0
          by_cases hlt : k < a.length
          · have htk : (a.take (k + 1)).count 10 = (a.take k).count 10 + if a[k] = 10 then 1 else 0 := by
              rw [List.take_succ_eq_append_getElem hlt, List.count_append, List.count_cons, List.count_nil]; simp
            have hcl : (a.take k).count 10 ≤ k := Nat.le_trans List.count_le_length (by rw [List.length_take]; omega)
            have hget : (⟨a.toArray⟩ : ByteArray)[k]'hlt = a[k] := rfl
            have hA1 := HA1.out
            generalize (a.take k).count 10 = c at *
            generalize a[k] = ak at *
            have hwN : IntKind.i64.wrap (1 + (c : Int) + 1) = 1 + (c : Int) + 1 := by
              unfold IntKind.wrap; simp [IntKind.bits, IntKind.signed]; omega
            by_cases h10 : ak = 10
            · have g : ((ak.toNat : Int) == 10) = true := by rw [h10]; rfl
              rw [if_pos h10] at htk
              have HTK := Lib.hid htk
              clear htk h10
              go_wp2_with fail
              go_roundw
              case rel => exact ⟨k + 1, by omega, by go_num, by rw [HTK.out]; go_num, HBL0.out⟩
              case measure => simp [intOf]; omega
            · have g : ((ak.toNat : Int) == 10) = false := byte_ne (m := 10) (by decide) h10
              rw [if_neg h10] at htk
              have HTK := Lib.hid htk
              clear htk h10
              go_wp2_with fail
              go_roundw
              case rel => exact ⟨k + 1, by omega, by go_num, by rw [HTK.out]; rfl, HBL0.out⟩
              case measure => simp [intOf]; omega
          · have hka : k = a.length := by omega
            subst hka
            rw [List.take_length]
            have hcl : a.count 10 ≤ a.length := List.count_le_length
            have hpl := HPL.out (by have h1 := HX.out; have h2 := HY.out; have h3 := HZ.out; omega)
            obtain ⟨n, hn⟩ : ∃ n, n = 1 + a.count 10 := ⟨_, rfl⟩
            rw [← hn] at hpl
            have hnI : 1 + ((a.count 10 : Nat) : Int) = (n : Int) := by omega
            rw [hnI]
            have hn2 : n ≤ a.length + 1 := by omega
            have HPL2 := Lib.hid hpl
            have hA1 := HA1.out
            have hA2 := HA2.out
            have hB1 := HB1'.out
            have hB2 := HB2'.out
            have hn3 : n ≤ 1048577 := by omega
            have hl3 : l.length ≤ 1048577 := by omega
            have hm3 : m.length ≤ 1048577 := by omega
            clear hnI hpl hn hn2 hA1 hA2 hB1 hB2 HPL hcl hk hlt
            go_wp2_with fail
            go_loopw [11, 12] (fun v i wr => ∃ k : Nat, k + 1 ≤ l.length ∧ i = .int .i64 k ∧ Owns wr w3.heap.size 33 4 enTok v (l.take k) ∧ Below w3.heap.size w3 wr) (fun _ i _ => l.length - (intOf i).toNat)
            case atStart => exact ⟨0, a3, rfl, Owns.nil _ _ _ _ _, HBL0.out⟩
            case round =>
              obtain ⟨k, hk, rfl, hown, hbel⟩ := hrel
              have hwk : IntKind.i64.wrap ((k : Int) + 1) = (k : Int) + 1 := by
                unfold IntKind.wrap; simp [IntKind.bits, IntKind.signed]; omega
              by_cases hlt : k + 1 < l.length
              · have hltI : (k : Int) + 1 < l.length := by omega
                have hlt2 : k < l.length := by omega
                obtain ⟨bl, ol, rfl, hbl, hc0, hc1, hc2, hc3⟩ := tok_at (SlOf.keep HL3.out hbel (Nat.le_refl _)) hlt2
                have HOW := Lib.hid hown
                have HBE := Lib.hid hbel
                clear hown hbel
                go_wp2_with (at_builtin; go_loud (refine wpList_append_elem toks_ty (l.take k) l[k] HOW.out HBE.out (Nat.le_refl _) (by rw [List.length_take]; omega) ?_ (hone := by simp [enTok, Value.oneCell'])))
                intro v' w9 hown hbel
                have HOW := Lib.hid hown
                have HBE := Lib.hid hbel
                clear hown hbel
                go_wp2_with fail
                go_roundw
                case rel => exact ⟨k + 1, by omega, by go_num, HOW.out, HBE.out⟩
                case measure => simp [intOf]; omega
              · have hltI : ¬ (k : Int) + 1 < l.length := by omega
                have hkl : k = l.length - 1 := by omega
                rw [hkl, ← List.dropLast_eq_take] at hown
                have HOW := Lib.hid hown
                have HBE := Lib.hid hbel
                clear hown hbel hkl
                go_wp2_with fail
                clear hltI hlt hk hwk
                go_loopw [11, 13] (fun v i wr => ∃ k : Nat, k ≤ m.length ∧ i = .int .i64 k ∧ Owns wr w3.heap.size 33 4 enTok v (l.dropLast ++ (m.take k).map (shT n)) ∧ Below w3.heap.size w3 wr) (fun _ i _ => m.length - (intOf i).toNat)
                case atStart => exact ⟨0, Nat.zero_le _, rfl, by simpa using HOW.out, HBE.out⟩
                case round =>
                  clear HOW HBE
                  obtain ⟨j, hj, rfl, hown, hbel⟩ := hrel
                  by_cases hlt : j < m.length
                  · have hltI : (j : Int) < m.length := by omega
                    obtain ⟨bm, om, rfl, hbm, hc0, hc1, hc2, hc3⟩ := tok_at (SlOf.keep HM3.out hbel (Nat.le_refl _)) hlt
                    have hwL : IntKind.i64.wrap (m[j].line + (n : Int)) = m[j].line + (n : Int) := by
                      have hml := HB4.out m[j] (List.getElem_mem hlt)
                      unfold IntKind.wrap; simp [IntKind.bits, IntKind.signed]; omega
                    have hE : l.dropLast ++ (m.take j).map (shT n) ++ [shT n m[j]] = l.dropLast ++ (m.take (j + 1)).map (shT n) := by
                      rw [List.take_succ_eq_append_getElem hlt, List.map_append, List.append_assoc]; rfl
                    have HE := Lib.hid hE
                    have HOW := Lib.hid hown
                    have HBE := Lib.hid hbel
                    clear hown hbel hE
                    go_wp2_with (at_builtin; go_loud (refine wpList_append_elem toks_ty (l.dropLast ++ (m.take j).map (shT n)) (shT n m[j]) (HOW.out.alloc _) (HBE.out.alloc HBE.out.size _) (Nat.le_refl _) (by rw [List.length_append, List.length_dropLast, List.length_map, List.length_take]; omega) ?_ (hx := by rw [World.size_alloc]; rfl) (hone := by simp [enTok, shT, Value.oneCell'])))
                    intro v' w9 hown hbel
                    have hown2 : Owns w9 w3.heap.size 33 4 enTok v' (l.dropLast ++ (m.take (j + 1)).map (shT n)) := by
                      rw [← HE.out]; simpa using hown
                    have HOW := Lib.hid hown2
                    have HBE := Lib.hid hbel
                    clear hown hbel hown2
                    go_wp2_with fail
                    go_roundw
                    case rel => exact ⟨j + 1, by omega, by go_num, HOW.out, HBE.out⟩
                    case measure => simp [intOf]; omega
                  · have hltI : ¬ (j : Int) < m.length := by omega
                    have hjm : j = m.length := by omega
                    rw [hjm, List.take_length] at hown
                    have hpl := HPL2.out
                    generalize l.dropLast ++ m.map (shT n) = X at *
                    obtain ⟨ag, cg, rfl, hsg⟩ := hown.shape
                    obtain ⟨ab, hab⟩ : ∃ x, x = a ++ [10] := ⟨_, rfl⟩
                    obtain ⟨abc, habc⟩ : ∃ x, x = ab ++ b := ⟨_, rfl⟩
                    have hap1 : (⟨a.toArray⟩ : ByteArray) ++ ⟨#[10]⟩ = ⟨ab.toArray⟩ := by rw [hab]; exact strs_app a [10]
                    have hap2 := strs_app ab b
                    rw [← habc] at hap2
                    have hB1 := HB1'.out
                    have hA1 := HA1.out
                    have hla : ab.length = a.length + 1 := by rw [hab]; simp
                    have hn1 : ¬ (9223372036854775807 < a.length + 1) := by omega
                    have hn4 : ¬ (9223372036854775807 < ab.length + b.length) := by omega
                    have hlc : abc.length ≤ 9223372036854775807 := by rw [habc, List.length_append]; omega
                    have cgt : ∀ W, TabsU W → Calls Tryz.prog 6 #[.string ⟨abc.toArray⟩] W (RetScan W (.good X)) := fun W hW => by
                      have h9 := scan_any abc hlc W hW
                      rwa [show abc = a ++ 10 :: b from by rw [habc, hab, List.append_assoc]; rfl, hpl, show a ++ 10 :: b = abc from by rw [habc, hab, List.append_assoc]; rfl] at h9
                    have HSG := Lib.hid hsg
                    have HBE := Lib.hid hbel
                    clear hown hbel hsg hpl HPL2 hab habc hla hlc hjm hB1 hA1
                    go_wp2_with fail
                    with_reducible refine (cgt _ (HT3.out.keep HBE.out)).mono ?_
                    rintro e w7 ⟨a7, c7, rfl, ho7, hb7⟩
                    have HS7 := Lib.hid ho7.sl.2
                    have HG7 := Lib.hid (SlOf.keep HSG.out hb7 (Nat.le_refl _))
                    have HB7 := Lib.hid (bstep (bstep HB3.out HBE.out (Nat.le_refl _)) hb7 (Nat.le_refl _))
                    clear ho7 hb7 cgt
                    go_wp2_with fail
                    with_reducible refine (sameTokens_any X _ _ rfl rfl _ _ _ _ _ HS7.out HG7.out).mono ?_
                    rintro e w8 ⟨rfl, hb8⟩
                    have HB8 := Lib.hid (bstep HB7.out hb8 (Nat.le_refl _))
                    clear hb8
                    go_wp2_with fail
                    go_ret
                    exact ⟨rfl, HB8.out⟩
end Go.Proofs.YtmifjfohanegiaaGreatDoor
