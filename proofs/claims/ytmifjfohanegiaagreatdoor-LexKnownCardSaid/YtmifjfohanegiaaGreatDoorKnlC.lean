/-
  busbarlaw04's knownLong and LexKnown: contracts.
-/
import Derived.Test.YtmifjfohanegiaaGreatDoorKnlA
import Derived.Test.YtmifjfohanegiaaGreatDoorKnlB
namespace Go.Proofs.YtmifjfohanegiaaGreatDoor
set_option linter.unusedVariables false
open Go.RowKit Go.Shelf

def repA (n : Nat) : List UInt8 := List.replicate n 97
theorem repA_len (n : Nat) : (repA n).length = n := by unfold repA; exact List.length_replicate
theorem repA_add (n m : Nat) : repA n ++ repA m = repA (n + m) := by unfold repA; exact List.replicate_append_replicate
theorem repA_succ (n : Nat) : repA (n + 1) = 97 :: repA n := by unfold repA; exact List.replicate_succ
theorem repA_fine : ∀ n, fineF (repA n).length (repA n)
  | 0 => fine_nil _
  | n + 1 => by
    rw [repA_succ]
    exact fine_app 1 [97] (repA n) _ (Nat.le_refl _) (Nat.le_refl _) (fine_one 97 (by decide) (by decide)) (repA_fine n)
theorem repA_name : ∀ n, (repA n).takeWhile ldC = repA n
  | 0 => rfl
  | n + 1 => by
    rw [repA_succ, List.takeWhile_cons, show ldC 97 = true from by decide, repA_name n]
    rfl
theorem repA_tok (n : Nat) : tokR (repA (n + 1)) = .good 1 (repA (n + 1)) (n + 1) := by
  have hn : nameN (repA (n + 1)) = n + 1 := by unfold nameN; rw [repA_name, repA_len]
  have h := tok_bytes 97 (repA n)
  rw [← repA_succ, if_pos (by decide), hn] at h
  rw [h, List.take_of_length_le (by rw [repA_len]; exact Nat.le_refl _)]
theorem repA_scan (n : Nat) (h : n + 1 ≤ 1048576) : ∃ l, scanL (repA (n + 1)) = .good l := by
  have hc := (check_fine _).2 (repA_fine (n + 1))
  have e : scanL (repA (n + 1)) = scanF (repA (n + 1)).length (repA (n + 1)) 0 (1, 1) [] := by
    unfold scanL
    rw [repA_len, if_neg (by omega), hc]
  have hI : RefI (repA (n + 1)) (scanL (repA (n + 1))) 0 [] (1, 1) := ⟨Nat.zero_le _, .zero _ _, e⟩
  have hlt : 0 < (repA (n + 1)).length := by rw [repA_len]; omega
  have h0 : (repA (n + 1))[0] = 97 := by simp only [repA_succ, List.getElem_cons_zero]
  obtain ⟨h1, q, h2⟩ := hI.good hlt (by rw [h0]; rfl) (repA_tok n)
  rw [Nat.zero_add] at h2
  exact ⟨_, h2.fin (repA_len _).symm⟩
theorem repA_many : scanL (repA 1048577) = .bad (errV 5) := by
  unfold scanL
  rw [repA_len, if_pos (by decide)]

set_option maxRecDepth 100000 in
set_option maxHeartbeats 8000000 in
theorem knownLong_any (w : World) (hT : TabsU w) (hg : LaidT w) :
    Calls Tryz.prog 18 #[] w fun e w' => e = .returned (.bool true) ∧ Below w.heap.size w w' := by
  have HT := Lib.hid hT
  have HG := Lib.hid hg
  clear hT hg
  go_enter Tryz.func18, Tryz.ntmps18
  go_wp2_with fail
  go_loopw [1, 2] (fun s x wr => ∃ (k : Nat) (X : List UInt8), k ≤ 1024 ∧ x = .int .i64 k ∧ s = .string ⟨X.toArray⟩ ∧ X = repA k ∧ wr = w) (fun _ x _ => 1024 - (intOf x).toNat)
  case atStart => exact ⟨0, [], by omega, rfl, rfl, rfl, rfl⟩
  case round =>
    obtain ⟨k, X, hk, rfl, rfl, hX, rfl⟩ := hrel
    have hl : X.length = k := by rw [hX, repA_len]
    have HX := Lib.hid hX
    clear hX
    by_cases hlt : k < 1024
    · have ha := strs_appQ X [97]
      have HN := Lib.hid (show X ++ [97] = repA (k + 1) by rw [HX.out]; exact repA_add k 1)
      have hl2 : X.length ≤ 1024 := by omega
      have hn : ¬ (9223372036854775807 < X.length + 1) := by omega
      clear hl
      generalize X ++ [97] = X1 at *
      go_wp2_with fail
      go_roundw
      case rel => exact ⟨k + 1, X1, by omega, by go_num, rfl, HN.out, trivial⟩
      case measure => simp [intOf]; omega
    · have : k = 1024 := by omega
      subst this
      have HL := Lib.hid hl
      clear hl
      go_wp2_with fail
      go_loopw [3, 4] (fun s x wr' => ∃ (k : Nat) (Y : List UInt8), k ≤ 1024 ∧ x = .int .i64 k ∧ s = .string ⟨Y.toArray⟩ ∧ Y = repA (1024 * k) ∧ wr' = wr) (fun _ x _ => 1024 - (intOf x).toNat)
      case atStart => exact ⟨0, [], by omega, rfl, rfl, rfl, rfl⟩
      case round =>
        obtain ⟨k, Y, hk, rfl, rfl, hY, rfl⟩ := hrel
        have hl : Y.length = 1024 * k := by rw [hY, repA_len]
        have HY := Lib.hid hY
        clear hY
        by_cases hlt : k < 1024
        · have ha := strs_appQ Y X
          have HN := Lib.hid (show Y ++ X = repA (1024 * (k + 1)) by rw [HX.out, HY.out, repA_add, Nat.mul_succ])
          have hlx := HL.out
          have hl1 : X.length ≤ 1024 := by omega
          have hl2 : Y.length ≤ 1048576 := by omega
          have hn : ¬ (9223372036854775807 < Y.length + X.length) := by omega
          clear hl hlx
          generalize Y ++ X = Y1 at *
          go_wp2_with fail
          go_roundw
          case rel => exact ⟨k + 1, Y1, by omega, by go_num, rfl, HN.out, trivial⟩
          case measure => simp [intOf]; omega
        · have : k = 1024 := by omega
          subst this
          obtain ⟨lm, hlm⟩ := repA_scan 1048575 (Nat.le_refl _)
          have hYe : Y = repA (1048575 + 1) := HY.out
          have c1 : ∀ W, TabsU W → Calls Tryz.prog 6 #[.string ⟨Y.toArray⟩] W (RetScan W (.good lm)) := fun W hW => by
            have h := scan_any Y (by omega) W hW
            rw [hYe, hlm] at h
            rw [hYe]
            exact h
          have haY := strs_appQ Y [97]
          have hY2 : Y ++ [97] = repA 1048577 := by rw [hYe]; exact repA_add 1048576 1
          have hlY2 : (Y ++ [97]).length = Y.length + 1 := by rw [List.length_append]; rfl
          have c2 : ∀ W, TabsU W → Calls Tryz.prog 6 #[.string ⟨(Y ++ [97]).toArray⟩] W (RetScan W (.bad (errV 5))) := fun W hW => by
            have h := scan_any (Y ++ [97]) (by omega) W hW
            rw [hY2, repA_many] at h
            rw [hY2]
            exact h
          have hlx := HL.out
          clear hYe hY2
          have hnY : ¬ (9223372036854775807 < Y.length + 1) := by omega
          have hYb : Y.length ≤ 1048576 := by omega
          have hXb : X.length ≤ 1024 := by omega
          have hX1 : 1 ≤ X.length := by omega
          generalize Y ++ [97] = Y2 at *
          have ha1 := strs_appQ X X
          have hl1 : (X ++ X).length = X.length + X.length := List.length_append
          generalize X ++ X = A1 at *
          have ha2 : (⟨#[34]⟩ : ByteArray) ++ ⟨X.toArray⟩ = ⟨(34 :: X).toArray⟩ := strs_appQ [34] X
          have hl2 : (34 :: X).length = X.length + 1 := rfl
          generalize 34 :: X = A2 at *
          have ha3 := strs_appQ A2 [34]
          have hl3 : (A2 ++ [34]).length = A2.length + 1 := by rw [List.length_append]; rfl
          generalize A2 ++ [34] = A3 at *
          have ha4 : (⟨#[120, 32, 34]⟩ : ByteArray) ++ ⟨X.toArray⟩ = ⟨(120 :: 32 :: 34 :: X).toArray⟩ := strs_appQ [120, 32, 34] X
          have hl4 : (120 :: 32 :: 34 :: X).length = X.length + 3 := rfl
          generalize 120 :: 32 :: 34 :: X = A4 at *
          have ha5 := strs_appQ A4 [97, 34]
          have hl5 : (A4 ++ [97, 34]).length = A4.length + 2 := by rw [List.length_append]; rfl
          generalize A4 ++ [97, 34] = A5 at *
          have hex := ext_from X 1 hX1
          have hl6 : (X.drop 1).length = X.length - 1 := List.length_drop
          generalize X.drop 1 = A6 at *
          have ha7 : (⟨#[34]⟩ : ByteArray) ++ ⟨A6.toArray⟩ = ⟨(34 :: A6).toArray⟩ := strs_appQ [34] A6
          have hl7 : (34 :: A6).length = A6.length + 1 := rfl
          generalize 34 :: A6 = A7 at *
          have ha8 := strs_appQ A7 [195, 169, 34]
          have hl8 : (A7 ++ [195, 169, 34]).length = A7.length + 3 := by rw [List.length_append]; rfl
          generalize A7 ++ [195, 169, 34] = A8 at *
          have b1 : A1.length ≤ 10000 := by omega
          have b2 : A2.length ≤ 10000 := by omega
          have b3 : A3.length ≤ 10000 := by omega
          have b4 : A4.length ≤ 10000 := by omega
          have b5 : A5.length ≤ 10000 := by omega
          have b6 : A6.length ≤ 10000 := by omega
          have b7 : A7.length ≤ 10000 := by omega
          have b8 : A8.length ≤ 10000 := by omega
          have n1 : ¬ (9223372036854775807 < X.length + X.length) := by omega
          have n2 : ¬ (9223372036854775807 < 1 + X.length) := by omega
          have n3 : ¬ (9223372036854775807 < A2.length + 1) := by omega
          have n4 : ¬ (9223372036854775807 < 3 + X.length) := by omega
          have n5 : ¬ (9223372036854775807 < A4.length + 2) := by omega
          have n7 : ¬ (9223372036854775807 < 1 + A6.length) := by omega
          have n8 : ¬ (9223372036854775807 < A7.length + 3) := by omega
          have s1 := fun W h1 h2 => lexscans_any A1 (by omega) W h1 h2
          have s3 := fun W h1 h2 => lexscans_any A3 (by omega) W h1 h2
          have s5 := fun W h1 h2 => lexscans_any A5 (by omega) W h1 h2
          have s8 := fun W h1 h2 => lexscans_any A8 (by omega) W h1 h2
          have cp := fun W hW => plain_errno 5 5 (by decide) (by decide) W hW
          clear hl hlx hl1 hl2 hl3 hl4 hl5 hl6 hl7 hl8 hlm hlY2
          unfold errV at *
          go_wp2_with fail
          with_reducible refine (c1 _ HT.out).mono ?_
          rintro e w1 ⟨a, c, rfl, -, hb⟩
          have HB1 := Lib.hid hb
          have HT1 := Lib.hid (HT.out.keep hb)
          have HG1 := Lib.hid (LaidT.keep HG.out hb)
          clear hb c1
          go_wp2_with fail
          with_reducible refine (c2 _ HT1.out).mono ?_
          rintro e w2 ⟨rfl, hb⟩
          have HB2 := Lib.hid (bstep HB1.out hb (Nat.le_refl _))
          have HT2 := Lib.hid (HT1.out.keep hb)
          have HG2 := Lib.hid (LaidT.keep HG1.out hb)
          clear hb c2
          go_wp2_with fail
          with_reducible refine (s1 _ HT2.out HG2.out).mono ?_
          rintro e w3 ⟨rfl, hb⟩
          have HB3 := Lib.hid (bstep HB2.out hb (Nat.le_refl _))
          have HT3 := Lib.hid (HT2.out.keep hb)
          have HG3 := Lib.hid (LaidT.keep HG2.out hb)
          clear hb s1
          go_wp2_with fail
          with_reducible refine (s3 _ HT3.out HG3.out).mono ?_
          rintro e w4 ⟨rfl, hb⟩
          have HB4 := Lib.hid (bstep HB3.out hb (Nat.le_refl _))
          have HT4 := Lib.hid (HT3.out.keep hb)
          have HG4 := Lib.hid (LaidT.keep HG3.out hb)
          clear hb s3
          go_wp2_with fail
          with_reducible refine (s5 _ HT4.out HG4.out).mono ?_
          rintro e w5 ⟨rfl, hb⟩
          have HB5 := Lib.hid (bstep HB4.out hb (Nat.le_refl _))
          have HT5 := Lib.hid (HT4.out.keep hb)
          have HG5 := Lib.hid (LaidT.keep HG4.out hb)
          clear hb s5
          go_wp2_with fail
          with_reducible refine (s8 _ HT5.out HG5.out).mono ?_
          rintro e w6 ⟨rfl, hb⟩
          have HB6 := Lib.hid (bstep HB5.out hb (Nat.le_refl _))
          have HG6 := Lib.hid (LaidT.keep HG5.out hb)
          clear hb s8
          go_wp2_with fail
          with_reducible refine (cp _ HG6.out).mono ?_
          rintro e w7 ⟨rfl, hb⟩
          have HB7 := Lib.hid (bstep HB6.out hb (Nat.le_refl _))
          clear hb cp
          go_wp2_with fail
          go_ret
          exact ⟨rfl, HB7.out⟩

set_option maxRecDepth 100000 in
set_option maxHeartbeats 2000000 in
theorem lexknown_any (w : World) (hT : TabsU w) (hg : LaidT w) :
    Calls Tryz.prog 5 #[] w fun e w' => e = .returned (.bool true) ∧ Below w.heap.size w w' := by
  have HT := Lib.hid hT
  have HG := Lib.hid hg
  clear hT hg
  go_enter Tryz.func5, Tryz.ntmps5
  go_wp2_with fail
  with_reducible refine (knownSaid_any _ HT.out HG.out).mono ?_
  rintro e w1 ⟨rfl, hb⟩
  have HB1 := Lib.hid hb
  have HT1 := Lib.hid (HT.out.keep hb)
  have HG1 := Lib.hid (LaidT.keep HG.out hb)
  clear hb
  go_wp2_with fail
  with_reducible refine (knownRows_any _ HT1.out HG1.out).mono ?_
  rintro e w2 ⟨rfl, hb⟩
  have HB2 := Lib.hid (bstep HB1.out hb (Nat.le_refl _))
  have HT2 := Lib.hid (HT1.out.keep hb)
  have HG2 := Lib.hid (LaidT.keep HG1.out hb)
  clear hb
  go_wp2_with fail
  with_reducible refine (knownLong_any _ HT2.out HG2.out).mono ?_
  rintro e w3 ⟨rfl, hb⟩
  have HB3 := Lib.hid (bstep HB2.out hb (Nat.le_refl _))
  clear hb
  go_wp2_with fail
  go_ret
  exact ⟨rfl, HB3.out⟩
end Go.Proofs.YtmifjfohanegiaaGreatDoor
