/-
  The reference of chapter 04: one: contract.
-/
import Derived.Test.YtmifjfohanegiaaGreatDoorRlxE
import Derived.Test.YtmifjfohanegiaaGreatDoorRlxM
import Derived.Test.YtmifjfohanegiaaGreatDoorRlxC
namespace Go.Proofs.YtmifjfohanegiaaGreatDoor
set_option linter.unusedVariables false
open Go.RowKit Go.Shelf

def one4V (i : Nat) : TokR → Value
  | .bad e => .tuple #[tokV 0 [] (0, 0), .int .i64 0, .int .i64 (e : Nat)]
  | .good k t n => .tuple #[tokV k t (0, 0), .int .i64 ((i + n : Nat) : Int), .int .i64 0]
theorem unq_bad_pos {s : List UInt8} {n : Nat} (h : unqL s = .bad n) : 1 ≤ n ∧ n ≤ 6 := by
  have fin : ∀ b m, unqFin b = .bad m → 1 ≤ m ∧ m ≤ 6 := fun b m h => by
    unfold unqFin at h
    split at h
    · cases h
    · rename_i h2
      cases h
      refine ⟨by omega, ?_⟩
      unfold mayN
      split
      · decide
      · split <;> decide
  have en : ∀ o m, unqEnd o = .bad m → 1 ≤ m ∧ m ≤ 6 := fun o m h => by
    rcases o with _ | ⟨b, _ | ⟨x, r⟩⟩
    · cases h; decide
    · cases h; decide
    · have h' : (if r = [] then unqFin b else .bad 3) = .bad m := h
      split at h'
      · exact fin b m h'
      · cases h'; decide
  rcases s with _ | ⟨a, _ | ⟨b, t⟩⟩
  · cases h; decide
  · cases h; decide
  · have h' : (if a = 34 then unqEnd (unq [] (b :: t)) else .bad 4) = .bad n := h
    split at h'
    · exact en _ n h'
    · cases h'; decide
theorem ext_midR (L : List UInt8) (i n : Nat) : (⟨L.toArray⟩ : ByteArray).extract i (i + n) = ⟨((L.drop i).take n).toArray⟩ := by
  have h : ∀ (a b : ByteArray), a.data.toList = b.data.toList → a = b := fun a b e => by cases a; cases b; simp at e; rw [e]
  apply h
  rw [Go.Lib.extract_data]
  show (L.drop i).take (i + n - i) = _
  rw [Nat.add_sub_cancel_left]
theorem sgC_at (s : List UInt8) (i : Nat) (c : UInt8) (t : List UInt8) (hd : s.drop i = c :: t) : sgC c.toNat (s.drop i) = ((c == 43 || c == 45) && dgU (atB s (i + 1)).toNat) := by
  have e1 : (c.toNat == 43) = (c == 43) := by
    rw [Bool.eq_iff_iff, beq_iff_eq, beq_iff_eq]; exact ⟨fun h => UInt8.toNat_inj.1 h, fun h => by rw [h]; rfl⟩
  have e2 : (c.toNat == 45) = (c == 45) := by
    rw [Bool.eq_iff_iff, beq_iff_eq, beq_iff_eq]; exact ⟨fun h => UInt8.toNat_inj.1 h, fun h => by rw [h]; rfl⟩
  unfold sgC atB
  rw [e1, e2, List.getElem?_drop]
  cases s[i + 1]? <;> rfl

set_option maxRecDepth 100000 in
set_option maxHeartbeats 16000000 in
theorem one4_any (s : List UInt8) (i : Nat) (hs : s.length ≤ 1000000000) (hi : i < s.length) (w : World) :
    Calls Tryz.prog 109 #[.string ⟨s.toArray⟩, .int .i64 (i : Nat)] w fun e w' => e = .returned (one4V i (tokR (s.drop i))) ∧ Below w.heap.size w w' := by
  have hd := List.drop_eq_getElem_cons hi
  have hV0 := tok_bytes s[i] (s.drop (i + 1))
  rw [← hd] at hV0
  have hsg := sgC_at s i s[i] (s.drop (i + 1)) hd
  rw [hsg] at hV0
  have hnum : (dgU s[i].toNat || ((s[i] == 43 || s[i] == 45) && dgU (atB s (i + 1)).toNat)) = true → numA s i = shN i (numN (s.drop i)) ∧ tw (s.drop (i + sgnN (s.drop i))) ≠ [] := fun h => by
    rw [← hsg, hd] at h
    have h2 := num_first s[i] (s.drop (i + 1)) h
    rw [← hd, List.drop_drop] at h2
    exact ⟨numA_sh s i h2, h2⟩
  have hget : (⟨s.toArray⟩ : ByteArray)[i]'hi = s[i] := rfl
  have hsz : sgnR s i = if sgU s[i].toNat = true then i + 1 else if ordB (s.drop i) = true then i + 3 else 0 := by unfold sgnR; rw [atB_lt hi]
  have htx : s[i] = 34 → textR (s.drop i) = match endQ false 1 (s.drop (i + 1)) with
      | none => .bad 6
      | some j => match unqL ((s.drop i).take (j + 1)) with
        | .bad n => if n = 5 then .bad 5 else .bad 6
        | .good t => .good 3 t (j + 1) := fun _ => by
    unfold textR
    rw [List.drop_drop]
    rfl
  have hhd : (s.drop i).take 1 = [s[i]] := by rw [hd]; rfl
  have hql : ∀ j, endQ false 1 (s.drop (i + 1)) = some j → i + j + 1 ≤ s.length := fun j h => by
    have := endQ_lt _ _ _ _ h
    rw [List.length_drop] at this
    omega
  have hqs := endQ_shift (s.drop (i + 1)) false i 1
  have hol : ordB (s.drop i) = true → i + 3 ≤ s.length := fun h => by have := ordB_len h; rw [List.length_drop] at this; omega
  have hnl := numN_le (s.drop i)
  rw [List.length_drop] at hnl
  obtain ⟨V, hV⟩ : ∃ V, V = one4V i (tokR (s.drop i)) := ⟨_, rfl⟩
  rw [← hV]
  rw [hV0] at hV
  have HV := Lib.hid hV
  have HNUM := Lib.hid hnum
  have HSZ := Lib.hid hsz
  have HTX := Lib.hid htx
  have HHD := Lib.hid hhd
  have HQL := Lib.hid hql
  have HQS := Lib.hid hqs
  have HOL := Lib.hid hol
  have HNL := Lib.hid hnl
  have HD := Lib.hid hd
  have HB0 := Lib.hid ((Below.refl w.heap.size w).alloc (Nat.le_refl _) (.cells #[.int .i64 0, .string ⟨#[]⟩, .int .i64 0, .int .i64 0] 33))
  have HK0 := Lib.hid (Blk.new w #[.int .i64 0, .string ⟨#[]⟩, .int .i64 0, .int .i64 0] 33)
  have cl := fun w => letter4_any s[i].toNat w
  have cd := fun w => digit4_any s[i].toNat w
  clear hV0 hsg hnum hsz htx hhd hql hqs hol hnl hV hd
  generalize s[i] = c at *
  go_enter Tryz.func109, Tryz.ntmps109
  go_wp2_with fail
  generalize w.alloc (.cells #[.int .i64 0, .string ⟨#[]⟩, .int .i64 0, .int .i64 0] 33) = W at *
  obtain ⟨⟨r0, r1, r2, r3⟩, f0, f1, f2, f3⟩ := HK0.out.four
  with_reducible refine (cl _).mono ?_
  rintro e w1 ⟨rfl, rfl⟩
  have hV := HV.out
  clear HV cl
  cases hl : ltU c.toNat
  case true =>
    rw [hl, if_pos rfl] at hV
    have hnle := nameN_le (s.drop i)
    rw [List.length_drop] at hnle
    have hn0 : nameN (s.drop i) = ((s.drop i).takeWhile ldC).length := rfl
    have hx := ext_midR s i (nameN (s.drop i))
    have HX := Lib.hid hx
    generalize nameN (s.drop i) = n at *
    have HN0 := Lib.hid hn0
    generalize (s.drop i).take n = nm at *
    have HN := Lib.hid (show V = .tuple #[.agg #[.int .i64 1, .string ⟨nm.toArray⟩, .int .i64 0, .int .i64 0], .int .i64 ((i + n : Nat) : Int), .int .i64 0] from hV)
    clear hV hl HNUM HSZ HTX HHD HQL HQS HOL HNL HD cd hx hn0
    go_wp2_with fail
    go_loopw [8] (fun x wr => ∃ k : Nat, x = .int .i64 (k : Nat) ∧ i ≤ k ∧ k ≤ s.length ∧ i + n = k + ((s.drop k).takeWhile ldC).length ∧ wr = w1) (fun x _ => s.length - (intOf x).toNat)
    case atStart => exact ⟨i, rfl, Nat.le_refl _, by omega, by rw [HN0.out], rfl⟩
    case round =>
      clear hget HN0
      obtain ⟨k, rfl, hik, hk, hnk, rfl⟩ := hrel
      by_cases hlt : (k : Int) < s.length
      · have hlt' : k < s.length := by omega
        have hget : (⟨s.toArray⟩ : ByteArray)[k]'hlt' = s[k] := rfl
        have hd := List.drop_eq_getElem_cons hlt'
        rw [hd] at hnk
        generalize s[k] = ch at *
        have cl := fun w => letter4_any ch.toNat w
        have cd := fun w => digit4_any ch.toNat w
        cases hl : ltU ch.toNat
        · rw [hl] at cl
          cases hg : dgU ch.toNat
          · rw [hg] at cd
            have hld : ldC ch = false := by unfold ldC; rw [hl, hg]; rfl
            rw [List.takeWhile_cons, hld] at hnk
            obtain rfl : k = i + n := by simpa using hnk.symm
            have hx := HX.out
            clear hnk hd hl hg hld HX
            go_wp2_with fail
            with_reducible refine (cl _).mono ?_
            rintro e w2 ⟨rfl, rfl⟩
            go_wp2_with fail
            with_reducible refine (cd _).mono ?_
            rintro e w2 ⟨rfl, rfl⟩
            go_wp2_with fail
            exact bodyPost_ret (v := .tuple #[.agg #[.int .i64 1, .string ⟨nm.toArray⟩, .int .i64 0, .int .i64 0], .int .i64 ((i + n : Nat) : Int), .int .i64 0]) (by simp [results, Tryz.results109, go_sem, r0, r1, r2, r3]) rfl ⟨by rw [HN.out], below_set4 HB0.out (Nat.le_refl _) _ _ _ _⟩
          · rw [hg] at cd
            have hld : ldC ch = true := by unfold ldC; rw [hl, hg]; rfl
            rw [List.takeWhile_cons, hld] at hnk
            have HK := Lib.hid (show i + n = k + 1 + ((s.drop (k + 1)).takeWhile ldC).length by rw [hnk]; simp; omega)
            clear hnk hd hl hg hld HX
            go_wp2_with fail
            with_reducible refine (cl _).mono ?_
            rintro e w2 ⟨rfl, rfl⟩
            go_wp2_with fail
            with_reducible refine (cd _).mono ?_
            rintro e w2 ⟨rfl, rfl⟩
            go_wp2_with fail
            go_roundw
            case rel => exact ⟨k + 1, by first | rfl | go_num, by omega, by omega, HK.out, by first | rfl | trivial⟩
            case measure => (simp [intOf] <;> omega)
        · rw [hl] at cl
          have hld : ldC ch = true := by unfold ldC; rw [hl]; rfl
          rw [List.takeWhile_cons, hld] at hnk
          have HK := Lib.hid (show i + n = k + 1 + ((s.drop (k + 1)).takeWhile ldC).length by rw [hnk]; simp; omega)
          clear hnk hd hl hld HX
          go_wp2_with fail
          with_reducible refine (cl _).mono ?_
          rintro e w2 ⟨rfl, rfl⟩
          go_wp2_with fail
          go_roundw
          case rel => exact ⟨k + 1, by first | rfl | go_num, by omega, by omega, HK.out, by first | rfl | trivial⟩
          case measure => (simp [intOf] <;> omega)
      · obtain rfl : k = i + n := by
          rw [List.drop_eq_nil_of_le (by omega)] at hnk; simpa using hnk.symm
        have hx := HX.out
        clear hnk HX
        go_wp2_with fail
        exact bodyPost_ret (v := .tuple #[.agg #[.int .i64 1, .string ⟨nm.toArray⟩, .int .i64 0, .int .i64 0], .int .i64 ((i + n : Nat) : Int), .int .i64 0]) (by simp [results, Tryz.results109, go_sem, r0, r1, r2, r3]) rfl ⟨by rw [HN.out], below_set4 HB0.out (Nat.le_refl _) _ _ _ _⟩
  case false =>
    rw [hl, if_neg (by simp)] at hV
    clear hl
    have cA := fun w => at4_at s ((i : Int) + 1) (i + 1) (by omega) hs w
    have cD := fun w => digit4_any (atB s (i + 1)).toNat w
    have HV := Lib.hid hV
    obtain ⟨bn, hbn⟩ : ∃ b, b = (dgU c.toNat || ((c == 43 || c == 45) && dgU (atB s (i + 1)).toNat)) := ⟨_, rfl⟩
    rw [← hbn] at HV HNUM
    have HBN := Lib.hid hbn
    clear hbn hV
    generalize atB s (i + 1) = c1 at *
    go_upto_region 7 with fail
    go_cut [61] (fun x ws => x = .bool bn ∧ ws = w1)
    case first =>
      clear HV HNUM HSZ HTX HHD HQL HQS HOL HNL HD
      cases hg : dgU c.toNat
      · rw [hg] at cd
        by_cases e1 : c = 43
        · have g1 := u8_eqT (k := 43) (by decide) e1
          have HB := Lib.hid (show bn = dgU c1.toNat by rw [HBN.out, hg, e1]; rfl)
          generalize dgU c1.toNat = b1 at *
          clear HBN hg e1
          go_wp2_with fail
          with_reducible refine (cd _).mono ?_
          rintro e w2 ⟨rfl, rfl⟩
          go_wp2_with fail
          with_reducible refine (cA _).mono ?_
          rintro e w2 ⟨rfl, rfl⟩
          go_wp2_with fail
          with_reducible refine (cD _).mono ?_
          rintro e w2 ⟨rfl, rfl⟩
          go_wp2_with fail
          go_meet
          case rel => exact ⟨by rw [HB.out], rfl⟩
        · have g1 := u8_eqF (k := 43) (by decide) e1
          by_cases e2 : c = 45
          · have g2 := u8_eqT (k := 45) (by decide) e2
            have HB := Lib.hid (show bn = dgU c1.toNat by rw [HBN.out, hg, e2]; rfl)
            generalize dgU c1.toNat = b1 at *
            clear HBN hg e1 e2
            go_wp2_with fail
            with_reducible refine (cd _).mono ?_
            rintro e w2 ⟨rfl, rfl⟩
            go_wp2_with fail
            with_reducible refine (cA _).mono ?_
            rintro e w2 ⟨rfl, rfl⟩
            go_wp2_with fail
            with_reducible refine (cD _).mono ?_
            rintro e w2 ⟨rfl, rfl⟩
            go_wp2_with fail
            go_meet
            case rel => exact ⟨by rw [HB.out], rfl⟩
          · have g2 := u8_eqF (k := 45) (by decide) e2
            have HB := Lib.hid (show bn = false by rw [HBN.out, hg]; simp [e1, e2])
            clear HBN hg e1 e2 cA cD
            go_wp2_with fail
            with_reducible refine (cd _).mono ?_
            rintro e w2 ⟨rfl, rfl⟩
            go_wp2_with fail
            go_meet
            case rel => exact ⟨by rw [HB.out], rfl⟩
      · rw [hg] at cd
        have HB := Lib.hid (show bn = true by rw [HBN.out, hg]; rfl)
        clear HBN hg cA cD
        go_wp2_with fail
        with_reducible refine (cd _).mono ?_
        rintro e w2 ⟨rfl, rfl⟩
        go_wp2_with fail
        go_meet
        case rel => exact ⟨by rw [HB.out], rfl⟩
    case rest =>
    obtain ⟨rfl, rfl⟩ := hcut
    obtain ⟨w1, hw⟩ : ∃ x, x = wc := ⟨_, rfl⟩
    subst hw
    clear cA cD cd HBN
    have hV := HV.out
    clear HV
    cases bn
    case true =>
      rw [if_pos rfl] at hV
      obtain ⟨q1, q2⟩ := HNUM.out rfl
      have cN := fun w => number4_any s i hs hi q2 w
      rw [q1] at cN
      have hx := ext_midR s i (numN (s.drop i))
      have hnl := HNL.out
      clear q1 q2 HNUM HSZ HTX HHD HQL HQS HOL HNL HD
      generalize hnn : numN (s.drop i) = n at *
      generalize (s.drop i).take n = nm at *
      clear hnn
      go_wp2_with fail
      with_reducible refine (cN _).mono ?_
      rintro e w2 ⟨K, b, rfl, rfl, hb1, hb2⟩
      clear cN
      cases b
      · have h0 := hb2 rfl
        have hn0 : n = 0 := by unfold shN at h0; split at h0 <;> omega
        rw [if_pos hn0] at hV
        have HN := Lib.hid (show V = .tuple #[.agg #[.int .i64 0, .string ⟨#[]⟩, .int .i64 0, .int .i64 0], .int .i64 0, .int .i64 8] from hV)
        clear hV hb1 hb2 h0 hn0 hx
        go_wp2_with fail
        exact bodyPost_ret (v := .tuple #[.agg #[.int .i64 0, .string ⟨#[]⟩, .int .i64 0, .int .i64 0], .int .i64 0, .int .i64 8]) (by simp [results, Tryz.results109, go_sem, r0, r1, r2, r3]) rfl ⟨by rw [HN.out], below_set4 HB0.out (Nat.le_refl _) _ _ _ _⟩
      · obtain ⟨rfl, h0⟩ := hb1 rfl
        have hn0 : n ≠ 0 := fun h => h0 (by unfold shN; rw [if_pos h])
        rw [if_neg hn0] at hV
        have HN := Lib.hid (show V = .tuple #[.agg #[.int .i64 2, .string ⟨nm.toArray⟩, .int .i64 0, .int .i64 0], .int .i64 ((i + n : Nat) : Int), .int .i64 0] from hV)
        have hsh : shN i n = i + n := by unfold shN; rw [if_neg hn0]
        rw [hsh]
        clear hV hb1 hb2 h0 hn0 hsh
        go_wp2_with fail
        exact bodyPost_ret (v := .tuple #[.agg #[.int .i64 2, .string ⟨nm.toArray⟩, .int .i64 0, .int .i64 0], .int .i64 ((i + n : Nat) : Int), .int .i64 0]) (by simp [results, Tryz.results109, go_sem, r0, r1, r2, r3]) rfl ⟨by rw [HN.out], below_set4 HB0.out (Nat.le_refl _) _ _ _ _⟩
    case false =>
      rw [if_neg (by simp)] at hV
      clear HNUM HNL
      by_cases e1 : c = 34
      · rw [if_pos e1, HTX.out e1] at hV
        have g1 := u8_eqT (k := 34) (by decide) e1
        have cQ := fun w => quoted4_any s i hs hi w
        rw [show i + 1 = i + 1 from rfl] at cQ
        have hqs := HQS.out
        rw [hqs] at cQ
        have hql := HQL.out
        clear HTX HSZ HHD HQL HQS HOL HD e1 hqs
        cases hq : endQ false 1 (s.drop (i + 1)) with
        | none =>
          rw [hq] at cQ hV
          have cQ2 : ∀ w, Calls Tryz.prog 137 #[.string ⟨s.toArray⟩, .int .i64 (i : Nat)] w fun e w' => e = .returned (.int .i64 0) ∧ w' = w := cQ
          have HN := Lib.hid (show V = .tuple #[.agg #[.int .i64 0, .string ⟨#[]⟩, .int .i64 0, .int .i64 0], .int .i64 0, .int .i64 6] from hV)
          clear hq hV cQ hql
          go_wp2_with fail
          with_reducible refine (cQ2 _).mono ?_
          rintro e w2 ⟨rfl, rfl⟩
          go_wp2_with fail
          exact bodyPost_ret (v := .tuple #[.agg #[.int .i64 0, .string ⟨#[]⟩, .int .i64 0, .int .i64 0], .int .i64 0, .int .i64 6]) (by simp [results, Tryz.results109, go_sem, r0, r1, r2, r3]) rfl ⟨by rw [HN.out], below_set4 HB0.out (Nat.le_refl _) _ _ _ _⟩
        | some j =>
          rw [hq] at cQ hV
          have hjl := hql j hq
          simp only at hV
          have cQ2 : ∀ w, Calls Tryz.prog 137 #[.string ⟨s.toArray⟩, .int .i64 (i : Nat)] w fun e w' => e = .returned (.int .i64 ((i + (j + 1) : Nat) : Int)) ∧ w' = w := cQ
          have hx := ext_midR s i (j + 1)
          have hlL : ((s.drop i).take (j + 1)).length ≤ 1000000000 := by rw [List.length_take, List.length_drop]; omega
          have cU := fun w => unquote3_any ((s.drop i).take (j + 1)) hlL w
          have gk : ((((i + (j + 1) : Nat) : Int)) == 0) = false := by rw [beq_eq_false_iff_ne]; omega
          have hkb : i + (j + 1) ≤ s.length := by omega
          generalize (s.drop i).take (j + 1) = L at *
          have hik : (i : Int) ≤ ((i + (j + 1) : Nat) : Int) := by omega
          generalize hkk : i + (j + 1) = k at *
          clear hq cQ hql hlL
          cases hu : unqL L with
          | bad m =>
            obtain ⟨m1, m2⟩ := unq_bad_pos hu
            rw [hu] at cU hV
            have cU2 : ∀ w, Calls Tryz.prog 138 #[.string ⟨L.toArray⟩] w fun e w' => e = .returned (.tuple #[.string ⟨#[]⟩, .int .i64 (m : Nat)]) ∧ Below w.heap.size w w' := cU
            simp only at hV
            by_cases h5 : m = 5
            · rw [if_pos h5] at hV
              subst h5
              have HN := Lib.hid (show V = .tuple #[.agg #[.int .i64 0, .string ⟨#[]⟩, .int .i64 0, .int .i64 0], .int .i64 0, .int .i64 5] from hV)
              clear hV cU hu
              go_wp2_with fail
              with_reducible refine (cQ2 _).mono ?_
              rintro e w2 ⟨rfl, rfl⟩
              go_wp2_with fail
              with_reducible refine (cU2 _).mono ?_
              rintro e w2 ⟨rfl, hb⟩
              have HB2 := Lib.hid (bstep HB0.out hb (Nat.le_refl _))
              have hk2 := HK0.out.keep hb (Nat.le_refl _)
              clear r0 r1 r2 r3 f0 f1 f2 f3 hb
              obtain ⟨⟨r0, r1, r2, r3⟩, f0, f1, f2, f3⟩ := hk2.four
              go_wp2_with fail
              exact bodyPost_ret (v := .tuple #[.agg #[.int .i64 0, .string ⟨#[]⟩, .int .i64 0, .int .i64 0], .int .i64 0, .int .i64 5]) (by simp [results, Tryz.results109, go_sem, r0, r1, r2, r3]) rfl ⟨by rw [HN.out], below_set4 HB2.out (Nat.le_refl _) _ _ _ _⟩
            · rw [if_neg h5] at hV
              have HN := Lib.hid (show V = .tuple #[.agg #[.int .i64 0, .string ⟨#[]⟩, .int .i64 0, .int .i64 0], .int .i64 0, .int .i64 6] from hV)
              have gm : ((m : Int) == 5) = false := by rw [beq_eq_false_iff_ne]; omega
              have gm2 : ((m : Int) != 0) = true := by rw [bne_iff_ne]; omega
              clear hV cU hu h5
              go_wp2_with fail
              with_reducible refine (cQ2 _).mono ?_
              rintro e w2 ⟨rfl, rfl⟩
              go_wp2_with fail
              with_reducible refine (cU2 _).mono ?_
              rintro e w2 ⟨rfl, hb⟩
              have HB2 := Lib.hid (bstep HB0.out hb (Nat.le_refl _))
              have hk2 := HK0.out.keep hb (Nat.le_refl _)
              clear r0 r1 r2 r3 f0 f1 f2 f3 hb
              obtain ⟨⟨r0, r1, r2, r3⟩, f0, f1, f2, f3⟩ := hk2.four
              go_wp2_with fail
              exact bodyPost_ret (v := .tuple #[.agg #[.int .i64 0, .string ⟨#[]⟩, .int .i64 0, .int .i64 0], .int .i64 0, .int .i64 6]) (by simp [results, Tryz.results109, go_sem, r0, r1, r2, r3]) rfl ⟨by rw [HN.out], below_set4 HB2.out (Nat.le_refl _) _ _ _ _⟩
          | good tx =>
            rw [hu] at cU hV
            have cU2 : ∀ w, Calls Tryz.prog 138 #[.string ⟨L.toArray⟩] w fun e w' => e = .returned (.tuple #[.string ⟨tx.toArray⟩, .int .i64 0]) ∧ Below w.heap.size w w' := cU
            have HN := Lib.hid (show V = .tuple #[.agg #[.int .i64 3, .string ⟨tx.toArray⟩, .int .i64 0, .int .i64 0], .int .i64 (k : Nat), .int .i64 0] by rw [hV, ← hkk]; rfl)
            clear hV cU hu
            go_wp2_with fail
            with_reducible refine (cQ2 _).mono ?_
            rintro e w2 ⟨rfl, rfl⟩
            go_wp2_with fail
            with_reducible refine (cU2 _).mono ?_
            rintro e w2 ⟨rfl, hb⟩
            have HB2 := Lib.hid (bstep HB0.out hb (Nat.le_refl _))
            have hk2 := HK0.out.keep hb (Nat.le_refl _)
            clear r0 r1 r2 r3 f0 f1 f2 f3 hb
            obtain ⟨⟨r0, r1, r2, r3⟩, f0, f1, f2, f3⟩ := hk2.four
            go_wp2_with fail
            exact bodyPost_ret (v := .tuple #[.agg #[.int .i64 3, .string ⟨tx.toArray⟩, .int .i64 0, .int .i64 0], .int .i64 (k : Nat), .int .i64 0]) (by simp [results, Tryz.results109, go_sem, r0, r1, r2, r3]) rfl ⟨by rw [HN.out], below_set4 HB2.out (Nat.le_refl _) _ _ _ _⟩
      · rw [if_neg e1] at hV
        have g1 := u8_eqF (k := 34) (by decide) e1
        have cS := fun w => sign4_any s i hs hi w
        rw [HSZ.out] at cS
        clear HTX HQL HQS e1 HSZ
        by_cases hsu : sgU c.toNat = true
        · rw [if_pos hsu] at hV
          simp only [if_pos hsu] at cS
          have hx := ext_midR s i 1
          rw [HHD.out] at hx
          have gk : ((((i + 1 : Nat) : Int)) == 0) = false := by rw [beq_eq_false_iff_ne]; omega
          have HN := Lib.hid (show V = .tuple #[.agg #[.int .i64 4, .string ⟨[c].toArray⟩, .int .i64 0, .int .i64 0], .int .i64 ((i + 1 : Nat) : Int), .int .i64 0] from hV)
          clear hV hsu HHD HOL HD
          go_wp2_with fail
          with_reducible refine (cS _).mono ?_
          rintro e w2 ⟨rfl, hb⟩
          have HB2 := Lib.hid (bstep HB0.out hb (Nat.le_refl _))
          have hk2 := HK0.out.keep hb (Nat.le_refl _)
          clear r0 r1 r2 r3 f0 f1 f2 f3 hb
          obtain ⟨⟨r0, r1, r2, r3⟩, f0, f1, f2, f3⟩ := hk2.four
          go_wp2_with fail
          exact bodyPost_ret (v := .tuple #[.agg #[.int .i64 4, .string ⟨[c].toArray⟩, .int .i64 0, .int .i64 0], .int .i64 ((i + 1 : Nat) : Int), .int .i64 0]) (by simp [results, Tryz.results109, go_sem, r0, r1, r2, r3]) rfl ⟨by rw [HN.out], below_set4 HB2.out (Nat.le_refl _) _ _ _ _⟩
        · rw [if_neg hsu] at hV
          simp only [if_neg hsu] at cS
          by_cases ho : ordB (s.drop i) = true
          · rw [if_pos ho] at hV
            simp only [if_pos ho] at cS
            have hx := ext_midR s i 3
            have hkb := HOL.out ho
            generalize (s.drop i).take 3 = L at *
            have gk : ((((i + 3 : Nat) : Int)) == 0) = false := by rw [beq_eq_false_iff_ne]; omega
            have HN := Lib.hid (show V = .tuple #[.agg #[.int .i64 4, .string ⟨L.toArray⟩, .int .i64 0, .int .i64 0], .int .i64 ((i + 3 : Nat) : Int), .int .i64 0] from hV)
            clear hV hsu HHD HOL HD ho
            go_wp2_with fail
            with_reducible refine (cS _).mono ?_
            rintro e w2 ⟨rfl, hb⟩
            have HB2 := Lib.hid (bstep HB0.out hb (Nat.le_refl _))
            have hk2 := HK0.out.keep hb (Nat.le_refl _)
            clear r0 r1 r2 r3 f0 f1 f2 f3 hb
            obtain ⟨⟨r0, r1, r2, r3⟩, f0, f1, f2, f3⟩ := hk2.four
            go_wp2_with fail
            exact bodyPost_ret (v := .tuple #[.agg #[.int .i64 4, .string ⟨L.toArray⟩, .int .i64 0, .int .i64 0], .int .i64 ((i + 3 : Nat) : Int), .int .i64 0]) (by simp [results, Tryz.results109, go_sem, r0, r1, r2, r3]) rfl ⟨by rw [HN.out], below_set4 HB2.out (Nat.le_refl _) _ _ _ _⟩
          · rw [if_neg ho] at hV
            simp only [if_neg ho] at cS
            have cS2 : ∀ w : World, Calls Tryz.prog 139 #[.string ⟨s.toArray⟩, .int .i64 (i : Nat)] w fun e w' => e = .returned (.int .i64 0) ∧ Below w.heap.size w w' := cS
            have HN := Lib.hid (show V = .tuple #[.agg #[.int .i64 0, .string ⟨#[]⟩, .int .i64 0, .int .i64 0], .int .i64 0, .int .i64 7] from hV)
            clear hV hsu HHD HOL HD ho cS
            go_wp2_with fail
            with_reducible refine (cS2 _).mono ?_
            rintro e w2 ⟨rfl, hb⟩
            have HB2 := Lib.hid (bstep HB0.out hb (Nat.le_refl _))
            have hk2 := HK0.out.keep hb (Nat.le_refl _)
            clear r0 r1 r2 r3 f0 f1 f2 f3 hb
            obtain ⟨⟨r0, r1, r2, r3⟩, f0, f1, f2, f3⟩ := hk2.four
            go_wp2_with fail
            exact bodyPost_ret (v := .tuple #[.agg #[.int .i64 0, .string ⟨#[]⟩, .int .i64 0, .int .i64 0], .int .i64 0, .int .i64 7]) (by simp [results, Tryz.results109, go_sem, r0, r1, r2, r3]) rfl ⟨by rw [HN.out], below_set4 HB2.out (Nat.le_refl _) _ _ _ _⟩
end Go.Proofs.YtmifjfohanegiaaGreatDoor
