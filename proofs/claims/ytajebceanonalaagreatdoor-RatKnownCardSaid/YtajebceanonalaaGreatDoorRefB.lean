/-
  The reference's Mul, Div: contracts.
-/
import Derived.Test.YtajebceanonalaaGreatDoorTxtF
import Derived.Test.YtajebceanonalaaGreatDoorTxtR
import Derived.Test.YtajebceanonalaaGreatDoorRatR
import Derived.Test.YtajebceanonalaaGreatDoorPlain
import Derived.Test.YtajebceanonalaaGreatDoorParR
import Derived.Test.YtajebceanonalaaGreatDoorRatK

namespace Go.Proofs.YtajebceanonalaaGreatDoor
set_option linter.unusedVariables false

theorem tw_app {d : List UInt8} (hd : digL d) (l : List UInt8) : tw (d ++ l) = d ++ tw l ∧ dw (d ++ l) = dw l := by
  induction d with
  | nil => exact ⟨rfl, rfl⟩
  | cons c t ih =>
    have hc := hd c (List.mem_cons_self ..)
    obtain ⟨i1, i2⟩ := ih (fun x hx => hd x (List.mem_cons_of_mem _ hx))
    rw [List.cons_append, tw_cons hc, dw_cons hc, i1, i2]; exact ⟨rfl, rfl⟩
theorem cutS_sgn (n : Int) {d : List UInt8} (hd : digL d) (hne : d ≠ []) (l : List UInt8) : cutS (sgnL n ++ (d ++ l)) = (decide (n < 0), d ++ l) := by
  unfold sgnL
  by_cases h : n < 0
  · rw [if_pos h]; simp [cutS, isSg, h]
  · rw [if_neg h, decide_eq_false h]
    cases d with
    | nil => exact absurd rfl hne
    | cons c t => exact cutS_not (dg_not (hd c (List.mem_cons_self ..))).1
theorem dec_ne (u : Nat) : Lib.decDigits u ≠ [] := by intro h; have := dec_pos u; rw [h] at this; simp at this
theorem read_int (n : Int) : readL (sgnL n ++ Lib.decDigits n.natAbs) = some (decide (n < 0), Lib.decDigits n.natAbs, 0) := by
  have hd := dec_digL n.natAbs
  have hne := dec_ne n.natAbs
  have hc := cutS_sgn n hd hne []
  have ht := tw_app hd []
  have h1 : tw [] = [] := rfl
  have h2 : dw [] = [] := rfl
  rw [List.append_nil] at hc ht
  rw [h1, h2, List.append_nil] at ht
  rw [read_cut]; unfold cutL
  rw [hc]; simp only [ht.1, ht.2, if_neg hne]
  simp [cutP, cutE, sgP, powL, powS]
theorem read_point (n : Int) (q : Nat) (r : List UInt8) (hr : digL r) (hne : r ≠ []) : readL (sgnL n ++ (Lib.decDigits q ++ 46 :: r)) = some (decide (n < 0), Lib.decDigits q ++ r, -(r.length : Int)) := by
  have hd := dec_digL q
  have hq := dec_ne q
  have hc := cutS_sgn n hd hq (46 :: r)
  have ht := tw_app hd (46 :: r)
  have h1 : tw (46 :: r) = [] := tw_stop (by decide)
  have h2 : dw (46 :: r) = 46 :: r := dw_stop (by decide)
  have h3 := tw_app hr []
  have h4 : tw [] = [] := rfl
  have h5 : dw [] = [] := rfl
  rw [List.append_nil, h4, h5, List.append_nil] at h3
  rw [h1, h2, List.append_nil] at ht
  rw [read_cut]; unfold cutL
  rw [hc]; simp only [ht.1, ht.2, if_neg hq]
  simp [cutP, cutE, sgP, powL, powS, h3.1, h3.2, hne]

theorem sgn_lenL (n : Int) : (sgnL n).length ≤ 1 := by unfold sgnL; split <;> simp
def okV (n d : Int) : Value := .tuple #[.agg #[.int .i64 n, .int .i64 d], .nilIface]
theorem parse_int (n : Int) (h : In64 n) : parseV (sgnL n ++ Lib.decDigits n.natAbs) = okV n 1 := by
  have hl : (Lib.decDigits n.natAbs).length ≤ 20 := dec_len64 (by have := h.1; have := h.2; omega)
  have hs := sgn_lenL n
  unfold parseV
  rw [if_neg (by rw [List.length_append]; omega), read_int]
  unfold parseR
  simp only
  have hf : parseF (decide (n < 0)) (valL (Lib.decDigits n.natAbs)) 0 = some (n, 1) := by
    rw [dec_valL]; unfold parseF
    rw [show (10 : Nat) ^ Int.toNat (-0) = 1 from rfl, show (10 : Nat) ^ Int.toNat 0 = 1 from rfl, Nat.mul_one, frac_iff _ _ _ (by decide), sgn_of]
    exact ⟨⟨by decide, by decide, h.1, h.2, Nat.gcd_one_right _⟩, by simp⟩
  rw [hf]; rfl
theorem rest_div {A d : Nat} (hd : 0 < d) (h1 : restN d = 1) : (A / d * 10 ^ placesN d + A % d * 10 ^ placesN d / d) * d = A * 10 ^ placesN d := by
  have hdv : d ∣ 10 ^ placesN d := (ends_iff d hd h1 _).2 (Nat.le_refl _)
  have h2 : A % d * 10 ^ placesN d / d * d = A % d * 10 ^ placesN d := Nat.div_mul_cancel (Nat.dvd_trans hdv (Nat.dvd_mul_left _ _))
  rw [Nat.add_mul, h2, Nat.mul_right_comm, ← Nat.add_mul, Nat.mul_comm (A / d) d, Nat.div_add_mod]
theorem parse_point (n : Int) (d : Nat) (hn : In64 n) (h1 : 1 ≤ d) (h2 : d ≤ 9223372036854775807) (hg : Nat.gcd n.natAbs d = 1) (hr : restN d = 1) (hd1 : d ≠ 1) :
    parseV (sgnL n ++ (Lib.decDigits (n.natAbs / d) ++ 46 :: longD (placesN d) (n.natAbs % d) d)) = okV n d := by
  have hk : placesN d ≠ 0 := fun h => hd1 ((one_iff h1 hr).1 h)
  have hk2 := places_le h1 h2
  have hq : n.natAbs / d ≤ n.natAbs := Nat.div_le_self _ _
  have hl : (Lib.decDigits (n.natAbs / d)).length ≤ 20 := dec_len64 (by have := hn.1; have := hn.2; omega)
  have hs := sgn_lenL n
  have hm : n.natAbs % d < d := Nat.mod_lt _ h1
  have hL : longD (placesN d) (n.natAbs % d) d = padD (placesN d) (n.natAbs % d * 10 ^ placesN d / d) := longD_pad _ _ _ hm
  have hF : n.natAbs % d * 10 ^ placesN d / d < 10 ^ placesN d := by
    rw [Nat.div_lt_iff_lt_mul h1, Nat.mul_comm (10 ^ _)]
    exact Nat.mul_lt_mul_of_pos_right hm (Nat.pow_pos (by decide))
  have hne : longD (placesN d) (n.natAbs % d) d ≠ [] := by
    intro h; have := longD_len (placesN d) (n.natAbs % d) d; rw [h] at this; simp at this; omega
  unfold parseV
  rw [if_neg (by rw [List.length_append, List.length_append, List.length_cons, longD_len]; omega), read_point n _ _ (by rw [hL]; exact digL_pad _ _) hne]
  unfold parseR
  simp only
  have hf : parseF (decide (n < 0)) (valL (Lib.decDigits (n.natAbs / d) ++ longD (placesN d) (n.natAbs % d) d)) (-((longD (placesN d) (n.natAbs % d) d).length : Int)) = some (n, (d : Int)) := by
    rw [valL_app, dec_valL, longD_len, hL, valL_pad _ _ hF]
    unfold parseF
    rw [frac_iff _ _ _ (p10 _)]
    refine ⟨⟨by omega, by omega, hn.1, hn.2, by simpa using hg⟩, ?_⟩
    have e := rest_div (A := n.natAbs) h1 hr
    have e1 : (-(placesN d : Int)).toNat = 0 := by omega
    have e2 : (- -(placesN d : Int)).toNat = placesN d := by omega
    rw [e1, e2, Nat.pow_zero, Nat.mul_one]
    generalize n.natAbs / d * 10 ^ placesN d + n.natAbs % d * 10 ^ placesN d / d = V at e ⊢
    generalize 10 ^ placesN d = T at e ⊢
    unfold sgn
    have e3 : (V : Int) * d = (n.natAbs : Int) * T := by exact_mod_cast e
    by_cases h0 : n < 0
    · have : (n.natAbs : Int) = -n := by omega
      rw [this] at e3
      simp only [h0, decide_true, if_true]
      rw [Int.neg_mul, e3, Int.neg_mul, Int.neg_neg]
    · have : (n.natAbs : Int) = n := by omega
      rw [this] at e3
      simp only [h0, decide_false]
      exact e3.symm
  rw [hf]; rfl

/-! ### the last stroke -/
def stepAt (p : Nat × Int) (c : UInt8) : Nat × Int := (p.1 + 1, if c = 47 then (p.1 : Int) else p.2)
def lastP (l : List UInt8) : Nat × Int := l.foldl stepAt (0, -1)
def lastAt (l : List UInt8) : Int := (lastP l).2
theorem lastP_len (l : List UInt8) (p : Nat × Int) : (l.foldl stepAt p).1 = p.1 + l.length := by
  induction l generalizing p with
  | nil => rfl
  | cons c t ih => rw [List.foldl_cons, ih, List.length_cons]; unfold stepAt; simp only; omega
theorem lastAt_snoc (l : List UInt8) (c : UInt8) : lastAt (l ++ [c]) = if c = 47 then (l.length : Int) else lastAt l := by
  unfold lastAt lastP
  rw [List.foldl_append]
  show (if c = 47 then (((l.foldl stepAt (0, -1)).1 : Nat) : Int) else (l.foldl stepAt (0, -1)).2) = _
  rw [lastP_len, Nat.zero_add]
theorem last_keep (l : List UInt8) (p : Nat × Int) (h : ∀ c ∈ l, c ≠ 47) : (l.foldl stepAt p).2 = p.2 := by
  induction l generalizing p with
  | nil => rfl
  | cons c t ih =>
    rw [List.foldl_cons, ih _ (fun x hx => h x (List.mem_cons_of_mem _ hx))]
    unfold stepAt; simp only; rw [if_neg (h c (List.mem_cons_self ..))]
theorem lastAt_none (l : List UInt8) (h : ∀ c ∈ l, c ≠ 47) : lastAt l = -1 := last_keep l _ h
theorem lastAt_at (a b : List UInt8) (h : ∀ c ∈ b, c ≠ 47) : lastAt (a ++ 47 :: b) = a.length := by
  unfold lastAt lastP
  rw [List.foldl_append, List.foldl_cons, last_keep b _ h]
  show (if (47 : UInt8) = 47 then (((a.foldl stepAt (0, -1)).1 : Nat) : Int) else (a.foldl stepAt (0, -1)).2) = _
  rw [if_pos rfl, lastP_len, Nat.zero_add]
theorem dig_no {l : List UInt8} (h : digL l) : ∀ c ∈ l, c ≠ 47 := fun c hc e => by
  have := h c hc; rw [e] at this; revert this; decide
theorem sgn_no (n : Int) : ∀ c ∈ sgnL n, c ≠ 47 := by
  intro c hc; unfold sgnL at hc; split at hc
  · simp at hc; subst hc; decide
  · simp at hc

/-- what RatThere asks of a right fraction's text -/
theorem there_law (n : Int) (d : Nat) (hn : In64 n) (h1 : 1 ≤ d) (h2 : d ≤ 9223372036854775807) (hg : Nat.gcd n.natAbs d = 1) :
    (lastAt (printL n d) = -1 ∧ parseV (printL n d) = okV n d) ∨
    (∃ at' : Nat, at' < (printL n d).length ∧ lastAt (printL n d) = at' ∧ parseV ((printL n d).take at') = okV n 1 ∧ parseV ((printL n d).drop (at' + 1)) = okV d 1 ∧ 1 < d) := by
  unfold printL bodyL
  by_cases hr : restN d = 1
  · rw [if_pos hr]
    left
    by_cases hd : d = 1
    · rw [if_pos hd]
      subst hd
      exact ⟨lastAt_none _ (fun c hc => (List.mem_append.1 hc).elim (sgn_no n c) (dig_no (dec_digL _) c)), parse_int n hn⟩
    · rw [if_neg hd]
      refine ⟨lastAt_none _ (fun c hc => ?_), parse_point n d hn h1 h2 hg hr hd⟩
      rcases List.mem_append.1 hc with h | h
      · exact sgn_no n c h
      rcases List.mem_append.1 h with h | h
      · exact dig_no (dec_digL _) c h
      rcases List.mem_cons.1 h with h | h
      · rw [h]; decide
      · rw [longD_pad _ _ _ (Nat.mod_lt _ h1)] at h
        exact dig_no (digL_pad _ _) c h
  · rw [if_neg hr]
    right
    have hd : d ≠ 1 := fun h => hr (by subst h; unfold restN; rw [(strip_no (p := 2) (d := 1) (by decide)).1, (strip_no (p := 5) (d := 1) (by decide)).1])
    refine ⟨(sgnL n ++ Lib.decDigits n.natAbs).length, ?_, ?_, ?_, ?_, by omega⟩
    · simp only [List.length_append, List.length_cons]; omega
    · rw [← List.append_assoc]; exact lastAt_at _ _ (dig_no (dec_digL _))
    · rw [← List.append_assoc, List.take_left]; exact parse_int n hn
    · rw [← List.append_assoc]
      have e : ((sgnL n ++ Lib.decDigits n.natAbs) ++ 47 :: Lib.decDigits d).drop ((sgnL n ++ Lib.decDigits n.natAbs).length + 1) = Lib.decDigits d := by
        rw [← List.drop_drop, List.drop_left]; rfl
      rw [e]
      have := parse_int (d : Int) ⟨by omega, by omega⟩
      unfold sgnL at this
      rw [if_neg (by omega), List.nil_append, Int.natAbs_natCast] at this
      exact this
end Go.Proofs.YtajebceanonalaaGreatDoor

namespace Go.Proofs.YtajebceanonalaaGreatDoor
set_option linter.unusedVariables false
open Go.RowKit

theorem printL_len (n : Int) (d : Nat) (hn : In64 n) (h1 : 1 ≤ d) (h2 : d ≤ 9223372036854775807) : (printL n d).length ≤ 100 := by
  have hs := sgn_lenL n
  have hA : (Lib.decDigits n.natAbs).length ≤ 20 := dec_len64 (by have := hn.1; have := hn.2; omega)
  have hd : (Lib.decDigits d).length ≤ 20 := dec_len64 (by omega)
  have hq : n.natAbs / d ≤ n.natAbs := Nat.div_le_self _ _
  have hQ : (Lib.decDigits (n.natAbs / d)).length ≤ 20 := dec_len64 (by have := hn.1; have := hn.2; omega)
  have hk := places_le h1 h2
  unfold printL bodyL
  rw [List.length_append]
  split
  · split
    · omega
    · rw [List.length_append, List.length_cons, longD_len]; omega
  · rw [List.length_append, List.length_cons]; omega

set_option maxRecDepth 100000 in
set_option maxHeartbeats 2000000 in
theorem there_bad (n d : Int) (h1 : In64 n) (h2 : In64 d) (hr : rightB n d = false) (w : World) (hp : PowTab w) :
    Calls Tryz.prog 4 #[.agg #[.int .i64 n, .int .i64 d]] w fun e w' => e = .returned (.bool true) ∧ Below w.heap.size w w' := by
  have cr := right_any n d h1 h2
  have co := fun w hp => print_any n d h1 h2 w hp
  rw [hr] at cr
  simp only [hr, Bool.false_eq_true, if_false, errV] at co
  have cw := works_any
  obtain ⟨ta, hsz, hbw⟩ := box1 w #[.int .i64 n, .int .i64 d] 23
  have TA := Lib.hid ta
  have HBW := Lib.hid hbw
  have HP := Lib.hid (hp.keep hbw)
  clear ta hsz hbw hr hp
  obtain ⟨a0, a1, _, _⟩ := TA.out.two
  go_enter Tryz.func4, Tryz.ntmps4
  go_wp2_with fail
  with_reducible refine (co _ HP.out).mono ?_
  rintro e w1 ⟨rfl, hb1⟩
  have HW1 := Lib.hid (bstep HBW.out hb1 (Nat.le_refl _))
  have TA1 := Lib.hid (TA.out.keep hb1 (Nat.le_refl _))
  clear a0 a1
  obtain ⟨f0, f1, f2, f3⟩ := TA1.out.two
  have l0 := fun x : Later w1 => Later.cell f0 x
  have l1 := fun x : Later w1 => Later.cell f1 x
  clear hb1 co
  go_wp2_with fail
  refine wp_region_later0 (by kernel_rfl) (by kernel_rfl) ?_
  repeat (go_big_quiet_step ((first | (go_at_call 10; with_reducible exact Later.made (cw _)) | (go_at_call 11; with_reducible exact Later.made (cr _)))))
  refine wpQuiet_nil ?_
  rintro _ ⟨x, rfl⟩
  have HW2 := Lib.hid (bstep HW1.out x.below (Nat.le_refl _))
  clear l0 l1 f0 f1 f2 f3
  generalize x.w = w2 at *
  go_wp2_with fail
  go_ret
  exact ⟨rfl, HW2.out⟩

set_option maxRecDepth 100000 in
set_option maxHeartbeats 4000000 in
theorem there_ok (n d : Int) (h1 : In64 n) (h2 : In64 d) (hr : rightB n d = true) (w : World) (hp : PowTab w) :
    Calls Tryz.prog 4 #[.agg #[.int .i64 n, .int .i64 d]] w fun e w' => e = .returned (.bool true) ∧ Below w.heap.size w w' := by
  have cr := right_any n d h1 h2
  have co := fun w hp => print_any n d h1 h2 w hp
  obtain ⟨p1, p2, p3, p4, p5⟩ := (rightB_iff n d h1 h2).1 hr
  rw [hr] at cr
  simp only [hr, if_true] at co
  obtain ⟨D, rfl⟩ := Int.eq_ofNat_of_zero_le (show 0 ≤ d by omega)
  rw [Int.natAbs_natCast] at p5
  have hlaw := there_law n D h1 (by omega) (by omega) p5
  have hlen := printL_len n D h1 (by omega) (by omega)
  simp only [Int.natAbs_natCast] at co
  generalize printL n D = V at *
  have cw := works_any
  obtain ⟨ta, hsz, hbw⟩ := box1 w #[.int .i64 n, .int .i64 D] 23
  have TA := Lib.hid ta
  have HBW := Lib.hid hbw
  have HP := Lib.hid (hp.keep hbw)
  have HL := Lib.hid hlaw
  clear ta hsz hbw hr hp hlaw p1 p2 p3 p4 p5 h1 h2
  obtain ⟨a0, a1, _, _⟩ := TA.out.two
  go_enter Tryz.func4, Tryz.ntmps4
  go_wp2_with fail
  with_reducible refine (co _ HP.out).mono ?_
  rintro e w1 ⟨rfl, hb1⟩
  have HW1 := Lib.hid (bstep HBW.out hb1 (Nat.le_refl _))
  have TA1 := Lib.hid (TA.out.keep hb1 (Nat.le_refl _))
  clear a0 a1
  obtain ⟨f0, f1, f2, f3⟩ := TA1.out.two
  have l0 := fun x : Later w1 => Later.cell f0 x
  have l1 := fun x : Later w1 => Later.cell f1 x
  clear hb1 co
  go_wp2_with fail
  refine wp_region_later0 (by kernel_rfl) (by kernel_rfl) ?_
  repeat (go_big_quiet_step ((first | (go_at_call 10; with_reducible exact Later.made (cw _)) | (go_at_call 11; with_reducible exact Later.made (cr _)))))
  refine wpQuiet_nil ?_
  rintro _ ⟨x, rfl⟩
  have HW2 := Lib.hid (bstep HW1.out x.below (Nat.le_refl _))
  have TA2 := Lib.hid (Later.blk TA1.out x)
  clear l0 l1 f0 f1 f2 f3 TA1 TA HW1 HBW HP cr cw
  generalize x.w = w2 at *
  go_wp2_with fail
  go_loopw [5, 6] (fun a i wr => ∃ k : Nat, k ≤ V.length ∧ i = .int .i64 (k : Nat) ∧ a = .int .i64 (lastAt (V.take k)) ∧ wr = w2) (fun _ i _ => V.length - (intOf i).toNat)
  case atStart => exact ⟨0, Nat.zero_le _, rfl, rfl, rfl⟩
  case round =>
    obtain ⟨k, hk, rfl, rfl, rfl⟩ := hrel
    by_cases hlt : (k : Int) < V.length
    · have hlt' : k < V.length := by omega
      have hget : (⟨V.toArray⟩ : ByteArray)[k]'hlt' = V[k] := rfl
      have hsn := lastAt_snoc (V.take k) V[k]
      rw [← List.take_succ_eq_append_getElem hlt', List.length_take_of_le hk] at hsn
      have HSN := Lib.hid hsn
      clear hsn
      generalize V[k] = c at *
      by_cases hc : c = 47
      · have HS2 := Lib.hid (show lastAt (V.take (k + 1)) = k by rw [HSN.out, if_pos hc])
        have hb : ((c.toNat : Int) == 47) = true := by rw [hc]; rfl
        clear HSN hc
        generalize lastAt (V.take k) = L at *
        go_wp2_with fail
        go_roundw
        case rel => exact ⟨k + 1, by omega, by first | rfl | go_num, by rw [HS2.out], trivial⟩
        case measure => (simp [intOf] <;> omega)
      · have HS2 := Lib.hid (show lastAt (V.take (k + 1)) = lastAt (V.take k) by rw [HSN.out, if_neg hc])
        have hb : ((c.toNat : Int) == 47) = false := by
          rw [beq_eq_false_iff_ne]; intro h; exact hc (UInt8.toNat.inj (by have e : UInt8.toNat 47 = 47 := rfl; rw [e]; omega))
        clear HSN hc
        go_wp2_with fail
        go_roundw
        case rel => exact ⟨k + 1, by omega, by first | rfl | go_num, by rw [HS2.out], trivial⟩
        case measure => (simp [intOf] <;> omega)
    · have hkl : V.take k = V := by rw [List.take_of_length_le (by omega)]
      rw [hkl]
      clear hkl
      obtain ⟨f0, f1, f2, f3⟩ := TA2.out.two
      rcases HL.out with ⟨e1, e2⟩ | ⟨at', q1, q2, q3, q4, q5⟩
      · have cp := parse_any V (by omega)
        rw [e2] at cp
        rw [e1]
        simp only [okV] at cp
        clear e1 e2 HL
        go_wp2_with fail
        with_reducible refine (cp _).mono ?_
        rintro e w3 ⟨rfl, hb⟩
        have HW3 := Lib.hid (bstep HW2.out hb (Nat.le_refl _))
        have TA3 := Lib.hid (TA2.out.keep hb (Nat.le_refl _))
        clear hb cp f0 f1 f2 f3
        obtain ⟨tb, hsz, hbw⟩ := box1 w3 #[.int .i64 n, .int .i64 (D : Int)] 23
        have HW4 := Lib.hid (bstep HW3.out hbw (Nat.le_refl _))
        obtain ⟨f0, f1, f2, f3⟩ := (TA3.out.keep hbw (Nat.le_refl _)).two
        obtain ⟨g0, g1, g2, g3⟩ := tb.two
        clear hsz hbw tb
        go_wp2_with fail
        go_ret
        exact ⟨rfl, HW4.out⟩
      · have cp := parse_any (V.take at') (by rw [List.length_take]; omega)
        have cq := parse_any (V.drop (at' + 1)) (by rw [List.length_drop]; omega)
        rw [q3] at cp
        rw [q4] at cq
        rw [q2]
        simp only [okV] at cp cq
        have he1 : (⟨V.toArray⟩ : ByteArray).extract 0 at' = ⟨(V.take at').toArray⟩ := by
          rw [extract_midR V 0 at' (by omega)]; simp
        have he2 : (⟨V.toArray⟩ : ByteArray).extract (at' + 1) V.length = ⟨(V.drop (at' + 1)).toArray⟩ := by
          rw [extract_midR V (at' + 1) V.length (Nat.le_refl _), List.take_of_length_le (by rw [List.length_drop]; omega)]
        have hgt : (1 : Int) < (D : Int) := by omega
        clear q2 q3 q4 q5 HL
        go_wp2_with fail
        with_reducible refine (cp _).mono ?_
        rintro e w3 ⟨rfl, hb⟩
        have HW3 := Lib.hid (bstep HW2.out hb (Nat.le_refl _))
        have TA3 := Lib.hid (TA2.out.keep hb (Nat.le_refl _))
        clear hb cp f0 f1 f2 f3
        obtain ⟨tb, hsz, hbw⟩ := box1 w3 #[.int .i64 n, .int .i64 (1 : Int)] 23
        have HW4 := Lib.hid (bstep HW3.out hbw (Nat.le_refl _))
        have TA4 := Lib.hid (TA3.out.keep hbw (Nat.le_refl _))
        have TB4 := Lib.hid tb
        clear hsz hbw tb
        go_wp2_with fail
        generalize w3.alloc (.cells #[.int .i64 n, .int .i64 (1 : Int)] 23) = w4 at *
        with_reducible refine (cq _).mono ?_
        rintro e w5 ⟨rfl, hb⟩
        have HW5 := Lib.hid (bstep HW4.out hb (Nat.le_refl _))
        have TA5 := Lib.hid (TA4.out.keep hb (Nat.le_refl _))
        have TB5 := Lib.hid (TB4.out.keep hb (Nat.le_refl _))
        clear hb cq
        obtain ⟨tc, hsz, hbw⟩ := box1 w5 #[.int .i64 (D : Int), .int .i64 (1 : Int)] 23
        have HW6 := Lib.hid (bstep HW5.out hbw (Nat.le_refl _))
        obtain ⟨f0, f1, f2, f3⟩ := (TA5.out.keep hbw (Nat.le_refl _)).two
        obtain ⟨g0, g1, g2, g3⟩ := (TB5.out.keep hbw (Nat.le_refl _)).two
        obtain ⟨k0, k1, k2, k3⟩ := tc.two
        clear hsz hbw tc
        go_wp2_with fail
        go_ret
        exact ⟨rfl, HW6.out⟩

theorem ratthere_any (n d : Int) (h1 : In64 n) (h2 : In64 d) (w : World) (hp : PowTab w) :
    Calls Tryz.prog 4 #[.agg #[.int .i64 n, .int .i64 d]] w fun e w' => e = .returned (.bool true) ∧ Below w.heap.size w w' := by
  cases hr : rightB n d
  · exact there_bad n d h1 h2 hr w hp
  · exact there_ok n d h1 h2 hr w hp
end Go.Proofs.YtajebceanonalaaGreatDoor

namespace Go.Proofs.YtajebceanonalaaGreatDoor
set_option linter.unusedVariables false
open Go.RowKit

/-- the program's answer and the reference's are the same text, and the error is the one whose number is told -/
def SameS (P R : Value) : Prop := ∃ (x : List UInt8) (e : Value) (k : Int), P = .tuple #[.string ⟨x.toArray⟩, e] ∧ R = .tuple #[.string ⟨x.toArray⟩, .int .i64 k] ∧
  (∀ w, LaidT w → Calls Tryz.prog 30 #[e, .int .i64 k] w fun e w' => e = .returned (.bool true) ∧ Below w.heap.size w w')
theorem sameS_print (n d : Int) : SameS (if rightB n d then .tuple #[.string ⟨(printL n d.natAbs).toArray⟩, .nilIface] else .tuple #[.string ⟨#[]⟩, errV 1]) (if rightB n d then .tuple #[.string ⟨(printL n d.natAbs).toArray⟩, .int .i64 0] else .tuple #[.string ⟨#[]⟩, .int .i64 1]) := by
  split
  · exact ⟨_, _, 0, rfl, rfl, fun w hg => by simpa using plain_nil 0 w⟩
  · exact ⟨[], _, 1, rfl, rfl, fun w hg => by simpa using plain_errno 1 1 (by omega) (by omega) w hg⟩

set_option maxRecDepth 100000 in
set_option maxHeartbeats 4000000 in
theorem ratprints_any (n d : Int) (h1 : In64 n) (h2 : In64 d) (w : World) (hp : PowTab w) (hg : LaidT w) :
    Calls Tryz.prog 43 #[.agg #[.int .i64 n, .int .i64 d]] w fun e w' => e = .returned (.bool true) ∧ Below w.heap.size w w' := by
  have c1 := fun w hp => print_any n d h1 h2 w hp
  have c2 := refprint_any n d h1 h2
  obtain ⟨px, pe, pk, e1, e2, pc⟩ := sameS_print n d
  rw [e2] at c2
  simp only [e1] at c1
  clear e1 e2
  obtain ⟨ta, hsz, hbw⟩ := box1 w #[.int .i64 n, .int .i64 d] 23
  have TA := Lib.hid ta
  have HB := Lib.hid hbw
  have HG := Lib.hid (LaidT.keep hg hbw)
  have HP := Lib.hid (hp.keep hbw)
  clear ta hsz hbw hg h1 h2 hp
  obtain ⟨a0, a1, _, _⟩ := TA.out.two
  go_enter Tryz.func43, Tryz.ntmps43
  go_wp2_with fail
  with_reducible refine (c1 _ HP.out).mono ?_
  rintro e w1 ⟨rfl, hb⟩
  replace TA := Lib.hid (TA.out.keep hb (Nat.le_refl _))
  replace HG := Lib.hid (LaidT.keep HG.out hb)
  replace HB := Lib.hid (bstep HB.out hb (Nat.le_refl _))
  clear hb c1 a0 a1 HP
  obtain ⟨a0, a1, _, _⟩ := TA.out.two
  go_wp2_with fail
  with_reducible refine (c2 _).mono ?_
  rintro e w2 ⟨rfl, hb⟩
  replace HG := Lib.hid (LaidT.keep HG.out hb)
  replace HB := Lib.hid (bstep HB.out hb (Nat.le_refl _))
  clear hb c2 a0 a1
  go_wp2_with fail
  with_reducible refine (pc _ HG.out).mono ?_
  rintro e w5 ⟨rfl, hb⟩
  replace HB := Lib.hid (bstep HB.out hb (Nat.le_refl _))
  clear hb
  go_wp2_with fail
  go_ret
  exact ⟨rfl, HB.out⟩
end Go.Proofs.YtajebceanonalaaGreatDoor

namespace Go.Proofs.YtajebceanonalaaGreatDoor
set_option linter.unusedVariables false
open Go.RowKit

/-- the numbers of a sum of fractions with signs -/
def sumF (n1 : Bool) (A D : Nat) (n2 : Bool) (B E : Nat) : Bool × Nat :=
  if n1 = n2 then (n1, A * E + B * D) else if B * D ≤ A * E then (n1, A * E - B * D) else (n2, B * D - A * E)
theorem sumF_val (n1 : Bool) (A D : Nat) (n2 : Bool) (B E : Nat) : sgn (sumF n1 A D n2 B E).1 (sumF n1 A D n2 B E).2 = sgn n1 A * E + sgn n2 B * D := by
  unfold sumF
  rw [← sgn_mul, ← sgn_mul]
  generalize A * E = x
  generalize B * D = y
  by_cases h : n1 = n2
  · subst h; rw [if_pos rfl]; cases n1 <;> simp [sgn]; omega
  · rw [if_neg h]
    by_cases h2 : y ≤ x
    · rw [if_pos h2]; cases n1 <;> cases n2 <;> simp_all [sgn] <;> omega
    · rw [if_neg h2]; cases n1 <;> cases n2 <;> simp_all [sgn] <;> omega

theorem len_mul {a b i j : Nat} (ha : (digs a).length ≤ i) (hb : (digs b).length ≤ j) : (digs (a * b)).length ≤ i + j := by
  rw [digs_len] at *
  rw [Nat.pow_add]
  exact Nat.mul_lt_mul'' ha hb

set_option maxRecDepth 100000 in
set_option maxHeartbeats 2000000 in
theorem opposite_any (n1 : Bool) (A D : Nat) (f : Value) (w : World) (hf : FracV w f n1 A D) :
    Calls Tryz.prog 125 #[f] w (RetFrac w (!n1) A D) := by
  obtain ⟨xa, xd, rfl, ⟨aa, ca, rfl, ha⟩, ⟨ad, cd, rfl, hd⟩⟩ := hf
  obtain ⟨t0, t1, hsz, hbw⟩ := box2 w #[.bool n1, .slice aa (digs A).length ca, .slice ad (digs D).length cd] #[.bool false, .slice none 0 0, .slice none 0 0] 60 60
  obtain ⟨s0, s1, ssz, sbw⟩ := box2 w #[.bool n1, .slice aa (digs A).length ca, .slice ad (digs D).length cd] #[.bool (!n1), .slice aa (digs A).length ca, .slice ad (digs D).length cd] 60 60
  have HB := Lib.hid sbw
  have HA := Lib.hid (NatV.keep (w := w) ⟨aa, ca, rfl, ha⟩ HB.out)
  have HD := Lib.hid (NatV.keep (w := w) ⟨ad, cd, rfl, hd⟩ HB.out)
  obtain ⟨x0, x1, x2, x3, x4, x5⟩ := t0.three
  obtain ⟨y0, y1, y2, y3, y4, y5⟩ := t1.three
  clear s0 s1 ssz sbw
  clear hsz hbw t0 t1 ha hd
  go_enter Tryz.func125, Tryz.ntmps125
  go_wp2_with fail
  exact bodyPost_ret (v := .agg #[.bool (!n1), .slice aa (digs A).length ca, .slice ad (digs D).length cd]) (by simp [results, Tryz.results125, go_sem]) rfl ⟨_, rfl, ⟨_, _, rfl, HA.out, HD.out⟩, HB.out⟩


set_option maxRecDepth 100000 in
set_option maxHeartbeats 4000000 in
theorem refsum_any (n1 : Bool) (A D : Nat) (n2 : Bool) (B E : Nat) (hA : (digs A).length ≤ 1000) (hD : (digs D).length ≤ 1000) (hB : (digs B).length ≤ 1000) (hE : (digs E).length ≤ 1000) (f g : Value) (w : World) (hf : FracV w f n1 A D) (hg : FracV w g n2 B E) :
    Calls Tryz.prog 123 #[f, g] w (RetFrac w (sumF n1 A D n2 B E).1 (sumF n1 A D n2 B E).2 (D * E)) := by
  obtain ⟨xa, xd, rfl, ⟨aa, ca, rfl, ha⟩, ⟨ad, cd, rfl, hd⟩⟩ := hf
  obtain ⟨xb, xe, rfl, ⟨ab, cb, rfl, hb⟩, ⟨ae, ce, rfl, he⟩⟩ := hg
  have HA := Lib.hid ha
  have HD := Lib.hid hd
  have HB := Lib.hid hb
  have HE := Lib.hid he
  clear ha hd hb he
  have HLN := Lib.hid (And.intro (len_mul hA hE) (And.intro (len_mul hB hD) (len_mul hD hE)))
  have c1 := fun w' (h : Below w.heap.size w w') => times_any A E aa ae ca ce (by omega) (by omega) w' (HA.out.keep h (Nat.le_refl _)) (HE.out.keep h (Nat.le_refl _))
  have c2 := fun w' (h : Below w.heap.size w w') => times_any B D ab ad cb cd (by omega) (by omega) w' (HB.out.keep h (Nat.le_refl _)) (HD.out.keep h (Nat.le_refl _))
  have c3 := fun w' (h : Below w.heap.size w w') => times_any D E ad ae cd ce (by omega) (by omega) w' (HD.out.keep h (Nat.le_refl _)) (HE.out.keep h (Nat.le_refl _))
  clear hA hD hB hE
  obtain ⟨s, hs⟩ : ∃ s, s = sumF n1 A D n2 B E := ⟨_, rfl⟩
  rw [← hs]
  have HS := Lib.hid hs
  clear hs
  generalize (digs A).length = la at *
  generalize (digs D).length = ld at *
  generalize (digs B).length = lb at *
  generalize (digs E).length = le at *
  obtain ⟨t0, t1, t2, hsz, hbw⟩ := box3 w #[.bool n1, .slice aa la ca, .slice ad ld cd] #[.bool n2, .slice ab lb cb, .slice ae le ce] #[.bool false, .slice none 0 0, .slice none 0 0] 60 60 60
  obtain ⟨x0, x1, x2, x3, x4, x5⟩ := t0.three
  obtain ⟨z0, z1, z2, z3, z4, z5⟩ := t1.three
  have T0 := Lib.hid t0
  have T1 := Lib.hid t1
  have T2 := Lib.hid t2
  have HBW := Lib.hid hbw
  have HSZ := Lib.hid (Nat.le_of_eq hsz.symm)
  clear t0 t1 t2 hsz
  go_enter Tryz.func123, Tryz.ntmps123
  go_wp2_with fail
  with_reducible refine (c1 _ hbw).mono ?_
  rintro e w1 ⟨_, rfl, ⟨ax, cx, rfl, hsx⟩, hfx, hb1⟩
  have HX := Lib.hid hsx
  replace T0 := Lib.hid (T0.out.keep hb1 (Nat.le_refl _))
  replace T1 := Lib.hid (T1.out.keep hb1 (Nat.le_refl _))
  replace T2 := Lib.hid (T2.out.keep hb1 (Nat.le_refl _))
  replace HBW := Lib.hid (bstep HBW.out hb1 (Nat.le_refl _))
  replace HSZ := Lib.hid (Nat.le_trans HSZ.out hb1.size)
  clear x0 x1 x2 x3 x4 x5 z0 z1 z2 z3 z4 z5 c1 hbw hsx hb1 hfx
  obtain ⟨x0, x1, x2, x3, x4, x5⟩ := T0.out.three
  obtain ⟨z0, z1, z2, z3, z4, z5⟩ := T1.out.three
  go_wp2_with fail
  with_reducible refine (c2 _ HBW.out).mono ?_
  rintro e w2 ⟨_, rfl, ⟨ay, cy, rfl, hsy⟩, hfy, hb1⟩
  replace HX := Lib.hid (HX.out.keep hb1 (Nat.le_refl _))
  have HY := Lib.hid hsy
  replace T0 := Lib.hid (T0.out.keep hb1 (Nat.le_refl _))
  replace T1 := Lib.hid (T1.out.keep hb1 (Nat.le_refl _))
  replace T2 := Lib.hid (T2.out.keep hb1 (Nat.le_refl _))
  replace HBW := Lib.hid (bstep HBW.out hb1 (Nat.le_refl _))
  replace HSZ := Lib.hid (Nat.le_trans HSZ.out hb1.size)
  clear x0 x1 x2 x3 x4 x5 z0 z1 z2 z3 z4 z5 c2 hsy hb1 hfy
  obtain ⟨x0, x1, x2, x3, x4, x5⟩ := T0.out.three
  obtain ⟨z0, z1, z2, z3, z4, z5⟩ := T1.out.three
  go_wp2_with fail
  with_reducible refine (c3 _ HBW.out).mono ?_
  rintro e w3 ⟨_, rfl, ⟨az, cz, rfl, hsz⟩, hfz, hb1⟩
  replace HX := Lib.hid (HX.out.keep hb1 (Nat.le_refl _))
  replace HY := Lib.hid (HY.out.keep hb1 (Nat.le_refl _))
  have HFZ := Lib.hid (FreshV.low hfz HSZ.out)
  have HZ := Lib.hid (show NatV w3 (.slice az (digs (D * E)).length cz) (D * E) from ⟨az, cz, rfl, hsz⟩)
  replace T0 := Lib.hid (T0.out.keep hb1 (Nat.le_refl _))
  replace T1 := Lib.hid (T1.out.keep hb1 (Nat.le_refl _))
  replace T2 := Lib.hid (T2.out.keep hb1 (Nat.le_refl _))
  replace HBW := Lib.hid (bstep HBW.out hb1 (Nat.le_refl _))
  replace HSZ := Lib.hid (Nat.le_trans HSZ.out hb1.size)
  clear x0 x1 x2 x3 x4 x5 z0 z1 z2 z3 z4 z5 c3 hsz hb1 hfz
  generalize (digs (D * E)).length = lz at *
  have l1 : (digs (A * E)).length ≤ 10000 := by have := HLN.out; omega
  have l2 : (digs (B * D)).length ≤ 10000 := by have := HLN.out; omega
  clear HA HD HB HE HLN
  have hs := HS.out
  unfold sumF at hs
  generalize A * E = X at *
  generalize B * D = Y at *
  have cH := held_any X Y ax ay cx cy (by omega) (by omega) w3 HX.out HY.out
  have cP1 := fun w' (h : Below w3.heap.size w3 w') => plus_any X Y ax ay cx cy (by omega) (by omega) w' (HX.out.keep h (Nat.le_refl _)) (HY.out.keep h (Nat.le_refl _))
  have cP2 := fun (hle : Y ≤ X) w' (h : Below w3.heap.size w3 w') => less_any X Y hle ax ay cx cy (by omega) w' (HX.out.keep h (Nat.le_refl _)) (HY.out.keep h (Nat.le_refl _))
  have cP3 := fun (hle : X ≤ Y) w' (h : Below w3.heap.size w3 w') => less_any Y X hle ay ax cy cx (by omega) w' (HY.out.keep h (Nat.le_refl _)) (HX.out.keep h (Nat.le_refl _))
  clear l1 l2
  generalize hlx : (digs X).length = lx at *
  generalize hly : (digs Y).length = ly at *
  clear hlx hly
  obtain ⟨x0, _, _, x3, _, _⟩ := T0.out.three
  obtain ⟨x1', _, _, z3, _, _⟩ := T1.out.three
  by_cases h12 : n1 = n2
  · have hq : (n1 == n2) = true := by simpa using h12
    rw [if_pos h12] at hs
    subst hs
    have cP := cP1
    clear cP1 cP2 cP3 cH h12 HS
    go_wp2_with fail
    refine wp_region_held_drew (S := (fun (w' : World) => w'.cell? ⟨w.heap.size, 0, none⟩ = some (.bool n1) ∧ w'.cell? ⟨w.heap.size + 1, 0, none⟩ = some (.bool n2) ∧ Blk w' w.heap.size #[.bool n1, .slice aa la ca, .slice ad ld cd] ∧ Blk w' (w.heap.size + 1) #[.bool n2, .slice ab lb cb, .slice ae le ce] ∧ Below w.heap.size w w' ∧ w.heap.size + 3 ≤ w'.heap.size ∧ NatV w' (.slice az lz cz) (D * E) ∧ ∃ x y z, Blk w' (w.heap.size + 1 + 1) #[x, y, z])) (by kernel_rfl) ⟨x0, x1', (T0.out).keep (Below.refl _ _).drew (Nat.le_refl _), (T1.out).keep (Below.refl _ _).drew (Nat.le_refl _), HBW.out.drew, HSZ.out, NatV.keep HZ.out (Below.refl _ _).drew, _, _, _, (T2.out).keep (Below.refl _ _).drew (Nat.le_refl _)⟩ (fun hHeld => ?_)
    refine held_take 0 (v := ?_) rfl (by kernel_rfl) (by kernel_rfl) (by kernel_rfl) (fun _ _ _ h => h) (by assumption) ?_ ?_
    rotate_left
    · first | (refine Or.inr ⟨?_, ?_⟩ <;> rfl) | (refine Or.inl ⟨by rfl, ?_⟩; intro w hSw; (try dsimp only at hSw); first | (go_simp; done) | (go_simp; with_reducible rfl))
    try simp only [Act.put, List.setIfInBounds_toArray, List.set_cons_zero, List.set_cons_succ]
    refine held_take 1 (v := ?_) rfl (by kernel_rfl) (by kernel_rfl) (by kernel_rfl) (fun _ _ _ h => h) (by assumption) ?_ ?_
    rotate_left
    · first | (refine Or.inr ⟨?_, ?_⟩ <;> rfl) | (refine Or.inl ⟨by rfl, ?_⟩; intro w hSw; (try dsimp only at hSw); first | (go_simp; done) | (go_simp; with_reducible rfl))
    try simp only [Act.put, List.setIfInBounds_toArray, List.set_cons_zero, List.set_cons_succ]
    refine held_take 2 (v := ?_) rfl (by kernel_rfl) (by kernel_rfl) (by kernel_rfl) (fun _ _ _ h => h) (by assumption) ?_ ?_
    rotate_left
    · first | (refine Or.inr ⟨?_, ?_⟩ <;> rfl) | (refine Or.inl ⟨by rfl, ?_⟩; intro w hSw; (try dsimp only at hSw); first | (go_simp; done) | (go_simp; with_reducible rfl))
    try simp only [Act.put, List.setIfInBounds_toArray, List.set_cons_zero, List.set_cons_succ]
    refine held_take 3 (v := ?_) rfl (by kernel_rfl) (by kernel_rfl) (by kernel_rfl) (fun _ _ _ h => h) (by assumption) ?_ ?_
    rotate_left
    · first | (refine Or.inr ⟨?_, ?_⟩ <;> rfl) | (refine Or.inl ⟨by rfl, ?_⟩; intro w hSw; (try dsimp only at hSw); first | (go_simp; done) | (go_simp; with_reducible rfl))
    try simp only [Act.put, List.setIfInBounds_toArray, List.set_cons_zero, List.set_cons_succ]
    refine held_take 5 (v := ?_) rfl (by kernel_rfl) (by kernel_rfl) (by kernel_rfl) (fun _ _ _ h => h) (by assumption) ?_ ?_
    rotate_left
    · first | (refine Or.inr ⟨?_, ?_⟩ <;> rfl) | (refine Or.inl ⟨by rfl, ?_⟩; intro w hSw; (try dsimp only at hSw); first | (go_simp; done) | (go_simp; with_reducible rfl))
    try simp only [Act.put, List.setIfInBounds_toArray, List.set_cons_zero, List.set_cons_succ]
    refine held_call 4 rfl (by kernel_rfl) (fun K hK => ?_)
    go_simp
    with_reducible refine ((cP _ (Below.refl _ _).drew)).mono ?_
    rintro e w4 ⟨_, rfl, ⟨ap, cp, rfl, hsp⟩, hfp, hbk⟩
    have hb4 := hbk
    refine hK.out _ _ ?_ (fun hHeld => ?_)
    · first | exact hHeld | exact ⟨cell_keep' hHeld.1 hbk, cell_keep' hHeld.2.1 hbk, hHeld.2.2.1.keep hbk (Nat.le_refl _), hHeld.2.2.2.1.keep hbk (Nat.le_refl _), bstep hHeld.2.2.2.2.1 hbk (Nat.le_refl _), Nat.le_trans hHeld.2.2.2.2.2.1 hbk.size, hHeld.2.2.2.2.2.2.1.keep hbk, hHeld.2.2.2.2.2.2.2.imp fun _ => Exists.imp fun _ => Exists.imp fun _ h => h.keep hbk (Nat.le_refl _)⟩
    clear hK K
    try simp only [Act.put, List.setIfInBounds_toArray, List.set_cons_zero, List.set_cons_succ]
    refine held_take 6 (v := ?_) rfl (by kernel_rfl) (by kernel_rfl) (by kernel_rfl) (fun _ _ _ h => h) (by assumption) ?_ ?_
    rotate_left
    · first | (refine Or.inr ⟨?_, ?_⟩ <;> rfl) | (refine Or.inl ⟨by rfl, ?_⟩; intro w hSw; (try dsimp only at hSw); first | (go_simp; done) | (go_simp; with_reducible rfl))
    try simp only [Act.put, List.setIfInBounds_toArray, List.set_cons_zero, List.set_cons_succ]
    refine held_call 7 rfl (by kernel_rfl) (fun K hK => ?_)
    obtain ⟨q0, q1, q2, hq⟩ := hHeld.2.2.2.2.2.2.2
    obtain ⟨y0, y1, y2, y3, y4, y5⟩ := hq.three
    have HP := Lib.hid (natV_set3 (NatV.keep (w := w4) ⟨ap, cp, rfl, hsp⟩ (Below.refl _ _)) hq (.inl (FreshV.low hfp (by have h1 := HSZ.out; simp; omega))) (.bool n1) (.slice ap (digs (X + Y)).length cp) (.slice az lz cz))
    have HZ2 := Lib.hid (natV_set3 hHeld.2.2.2.2.2.2.1 hq (.inl (FreshV.low HFZ.out (Nat.le_refl _))) (.bool n1) (.slice ap (digs (X + Y)).length cp) (.slice az lz cz))
    have HQ := Lib.hid (hq.set3 (.bool n1) (.slice ap (digs (X + Y)).length cp) (.slice az lz cz))
    have HBW2 := Lib.hid (below_set3 hHeld.2.2.2.2.1 (Nat.le_add_right w.heap.size 2) (.bool n1) (.slice ap (digs (X + Y)).length cp) (.slice az lz cz))
    have HT := Lib.hid (hHeld.2.2.1.other3 (show w.heap.size + 1 + 1 ≠ w.heap.size by omega) (.bool n1) (.slice ap (digs (X + Y)).length cp) (.slice az lz cz))
    have HT2 := Lib.hid (hHeld.2.2.2.1.other3 (show w.heap.size + 1 + 1 ≠ w.heap.size + 1 by omega) (.bool n1) (.slice ap (digs (X + Y)).length cp) (.slice az lz cz))
    go_simp
    refine hK.out _ _ ?_ (fun hHeld2 => ?_)
    · exact ⟨HT.out.three.1, HT2.out.three.1, HT.out, HT2.out, HBW2.out, by simpa using hHeld.2.2.2.2.2.1, HZ2.out, _, _, _, HQ.out⟩
    clear hK K hHeld hHeld2 y0 y1 y2 y3 y4 y5 hsp hq
    refine wpAnyH_done (by kernel_rfl) ?_ _
    obtain ⟨y0, y1, y2, y3, y4, y5⟩ := HQ.out.three
    go_wp2_with fail
    exact bodyPost_ret (v := .agg #[.bool n1, .slice ap (digs (X + Y)).length cp, .slice az lz cz]) (by simp [results, Tryz.results123, go_sem, y0, y1, y2]) rfl ⟨_, rfl, ⟨_, _, rfl, HP.out, HZ2.out⟩, HBW2.out⟩
  · have hq : (n1 == n2) = false := by simpa using h12
    rw [if_neg h12] at hs
    obtain ⟨hv, hhv⟩ : ∃ x, x = heldI X Y := ⟨_, rfl⟩
    rw [← hhv] at cH
    by_cases hle : Y ≤ X
    · rw [if_pos hle] at hs
      subst hs
      have cP := cP2 hle
      have hv1 : 0 ≤ hv := by rw [hhv]; unfold heldI; rw [if_neg (by omega)]; split <;> decide
      clear cP1 cP2 cP3 h12 hhv hle HS
      go_wp2_with fail
      with_reducible refine cH.mono ?_
      rintro e w4 ⟨rfl, rfl⟩
      clear cH
      go_wp2_with fail
      refine wp_region_held_drew (S := (fun (w' : World) => w'.cell? ⟨w.heap.size, 0, none⟩ = some (.bool n1) ∧ w'.cell? ⟨w.heap.size + 1, 0, none⟩ = some (.bool n2) ∧ Blk w' w.heap.size #[.bool n1, .slice aa la ca, .slice ad ld cd] ∧ Blk w' (w.heap.size + 1) #[.bool n2, .slice ab lb cb, .slice ae le ce] ∧ Below w.heap.size w w' ∧ w.heap.size + 3 ≤ w'.heap.size ∧ NatV w' (.slice az lz cz) (D * E) ∧ ∃ x y z, Blk w' (w.heap.size + 1 + 1) #[x, y, z])) (by kernel_rfl) ⟨x0, x1', (T0.out).keep (Below.refl _ _).drew (Nat.le_refl _), (T1.out).keep (Below.refl _ _).drew (Nat.le_refl _), HBW.out.drew, HSZ.out, NatV.keep HZ.out (Below.refl _ _).drew, _, _, _, (T2.out).keep (Below.refl _ _).drew (Nat.le_refl _)⟩ (fun hHeld => ?_)
      refine held_take 0 (v := ?_) rfl (by kernel_rfl) (by kernel_rfl) (by kernel_rfl) (fun _ _ _ h => h) (by assumption) ?_ ?_
      rotate_left
      · first | (refine Or.inr ⟨?_, ?_⟩ <;> rfl) | (refine Or.inl ⟨by rfl, ?_⟩; intro w hSw; (try dsimp only at hSw); first | (go_simp; done) | (go_simp; with_reducible rfl))
      try simp only [Act.put, List.setIfInBounds_toArray, List.set_cons_zero, List.set_cons_succ]
      refine held_take 1 (v := ?_) rfl (by kernel_rfl) (by kernel_rfl) (by kernel_rfl) (fun _ _ _ h => h) (by assumption) ?_ ?_
      rotate_left
      · first | (refine Or.inr ⟨?_, ?_⟩ <;> rfl) | (refine Or.inl ⟨by rfl, ?_⟩; intro w hSw; (try dsimp only at hSw); first | (go_simp; done) | (go_simp; with_reducible rfl))
      try simp only [Act.put, List.setIfInBounds_toArray, List.set_cons_zero, List.set_cons_succ]
      refine held_take 2 (v := ?_) rfl (by kernel_rfl) (by kernel_rfl) (by kernel_rfl) (fun _ _ _ h => h) (by assumption) ?_ ?_
      rotate_left
      · first | (refine Or.inr ⟨?_, ?_⟩ <;> rfl) | (refine Or.inl ⟨by rfl, ?_⟩; intro w hSw; (try dsimp only at hSw); first | (go_simp; done) | (go_simp; with_reducible rfl))
      try simp only [Act.put, List.setIfInBounds_toArray, List.set_cons_zero, List.set_cons_succ]
      refine held_take 3 (v := ?_) rfl (by kernel_rfl) (by kernel_rfl) (by kernel_rfl) (fun _ _ _ h => h) (by assumption) ?_ ?_
      rotate_left
      · first | (refine Or.inr ⟨?_, ?_⟩ <;> rfl) | (refine Or.inl ⟨by rfl, ?_⟩; intro w hSw; (try dsimp only at hSw); first | (go_simp; done) | (go_simp; with_reducible rfl))
      try simp only [Act.put, List.setIfInBounds_toArray, List.set_cons_zero, List.set_cons_succ]
      refine held_take 5 (v := ?_) rfl (by kernel_rfl) (by kernel_rfl) (by kernel_rfl) (fun _ _ _ h => h) (by assumption) ?_ ?_
      rotate_left
      · first | (refine Or.inr ⟨?_, ?_⟩ <;> rfl) | (refine Or.inl ⟨by rfl, ?_⟩; intro w hSw; (try dsimp only at hSw); first | (go_simp; done) | (go_simp; with_reducible rfl))
      try simp only [Act.put, List.setIfInBounds_toArray, List.set_cons_zero, List.set_cons_succ]
      refine held_call 4 rfl (by kernel_rfl) (fun K hK => ?_)
      go_simp
      with_reducible refine ((cP _ (Below.refl _ _).drew)).mono ?_
      rintro e w4 ⟨_, rfl, ⟨ap, cp, rfl, hsp⟩, hfp, hbk⟩
      have hb4 := hbk
      refine hK.out _ _ ?_ (fun hHeld => ?_)
      · first | exact hHeld | exact ⟨cell_keep' hHeld.1 hbk, cell_keep' hHeld.2.1 hbk, hHeld.2.2.1.keep hbk (Nat.le_refl _), hHeld.2.2.2.1.keep hbk (Nat.le_refl _), bstep hHeld.2.2.2.2.1 hbk (Nat.le_refl _), Nat.le_trans hHeld.2.2.2.2.2.1 hbk.size, hHeld.2.2.2.2.2.2.1.keep hbk, hHeld.2.2.2.2.2.2.2.imp fun _ => Exists.imp fun _ => Exists.imp fun _ h => h.keep hbk (Nat.le_refl _)⟩
      clear hK K
      try simp only [Act.put, List.setIfInBounds_toArray, List.set_cons_zero, List.set_cons_succ]
      refine held_take 6 (v := ?_) rfl (by kernel_rfl) (by kernel_rfl) (by kernel_rfl) (fun _ _ _ h => h) (by assumption) ?_ ?_
      rotate_left
      · first | (refine Or.inr ⟨?_, ?_⟩ <;> rfl) | (refine Or.inl ⟨by rfl, ?_⟩; intro w hSw; (try dsimp only at hSw); first | (go_simp; done) | (go_simp; with_reducible rfl))
      try simp only [Act.put, List.setIfInBounds_toArray, List.set_cons_zero, List.set_cons_succ]
      refine held_call 7 rfl (by kernel_rfl) (fun K hK => ?_)
      obtain ⟨q0, q1, q2, hq⟩ := hHeld.2.2.2.2.2.2.2
      obtain ⟨y0, y1, y2, y3, y4, y5⟩ := hq.three
      have HP := Lib.hid (natV_set3 (NatV.keep (w := w4) ⟨ap, cp, rfl, hsp⟩ (Below.refl _ _)) hq (.inl (FreshV.low hfp (by have h1 := HSZ.out; simp; omega))) (.bool n1) (.slice ap (digs (X - Y)).length cp) (.slice az lz cz))
      have HZ2 := Lib.hid (natV_set3 hHeld.2.2.2.2.2.2.1 hq (.inl (FreshV.low HFZ.out (Nat.le_refl _))) (.bool n1) (.slice ap (digs (X - Y)).length cp) (.slice az lz cz))
      have HQ := Lib.hid (hq.set3 (.bool n1) (.slice ap (digs (X - Y)).length cp) (.slice az lz cz))
      have HBW2 := Lib.hid (below_set3 hHeld.2.2.2.2.1 (Nat.le_add_right w.heap.size 2) (.bool n1) (.slice ap (digs (X - Y)).length cp) (.slice az lz cz))
      have HT := Lib.hid (hHeld.2.2.1.other3 (show w.heap.size + 1 + 1 ≠ w.heap.size by omega) (.bool n1) (.slice ap (digs (X - Y)).length cp) (.slice az lz cz))
      have HT2 := Lib.hid (hHeld.2.2.2.1.other3 (show w.heap.size + 1 + 1 ≠ w.heap.size + 1 by omega) (.bool n1) (.slice ap (digs (X - Y)).length cp) (.slice az lz cz))
      go_simp
      refine hK.out _ _ ?_ (fun hHeld2 => ?_)
      · exact ⟨HT.out.three.1, HT2.out.three.1, HT.out, HT2.out, HBW2.out, by simpa using hHeld.2.2.2.2.2.1, HZ2.out, _, _, _, HQ.out⟩
      clear hK K hHeld hHeld2 y0 y1 y2 y3 y4 y5 hsp hq
      refine wpAnyH_done (by kernel_rfl) ?_ _
      obtain ⟨y0, y1, y2, y3, y4, y5⟩ := HQ.out.three
      go_wp2_with fail
      exact bodyPost_ret (v := .agg #[.bool n1, .slice ap (digs (X - Y)).length cp, .slice az lz cz]) (by simp [results, Tryz.results123, go_sem, y0, y1, y2]) rfl ⟨_, rfl, ⟨_, _, rfl, HP.out, HZ2.out⟩, HBW2.out⟩
    · rw [if_neg hle] at hs
      subst hs
      have cP := cP3 (by omega)
      have hv1 : hv = -1 := by rw [hhv]; unfold heldI; rw [if_pos (by omega)]
      subst hv1
      clear cP1 cP2 cP3 h12 hhv hle HS
      go_wp2_with fail
      with_reducible refine cH.mono ?_
      rintro e w4 ⟨rfl, rfl⟩
      clear cH
      go_wp2_with fail
      refine wp_region_held_drew (S := (fun (w' : World) => w'.cell? ⟨w.heap.size, 0, none⟩ = some (.bool n1) ∧ w'.cell? ⟨w.heap.size + 1, 0, none⟩ = some (.bool n2) ∧ Blk w' w.heap.size #[.bool n1, .slice aa la ca, .slice ad ld cd] ∧ Blk w' (w.heap.size + 1) #[.bool n2, .slice ab lb cb, .slice ae le ce] ∧ Below w.heap.size w w' ∧ w.heap.size + 3 ≤ w'.heap.size ∧ NatV w' (.slice az lz cz) (D * E) ∧ ∃ x y z, Blk w' (w.heap.size + 1 + 1) #[x, y, z])) (by kernel_rfl) ⟨x0, x1', (T0.out).keep (Below.refl _ _).drew (Nat.le_refl _), (T1.out).keep (Below.refl _ _).drew (Nat.le_refl _), HBW.out.drew, HSZ.out, NatV.keep HZ.out (Below.refl _ _).drew, _, _, _, (T2.out).keep (Below.refl _ _).drew (Nat.le_refl _)⟩ (fun hHeld => ?_)
      refine held_take 0 (v := ?_) rfl (by kernel_rfl) (by kernel_rfl) (by kernel_rfl) (fun _ _ _ h => h) (by assumption) ?_ ?_
      rotate_left
      · first | (refine Or.inr ⟨?_, ?_⟩ <;> rfl) | (refine Or.inl ⟨by rfl, ?_⟩; intro w hSw; (try dsimp only at hSw); first | (go_simp; done) | (go_simp; with_reducible rfl))
      try simp only [Act.put, List.setIfInBounds_toArray, List.set_cons_zero, List.set_cons_succ]
      refine held_take 1 (v := ?_) rfl (by kernel_rfl) (by kernel_rfl) (by kernel_rfl) (fun _ _ _ h => h) (by assumption) ?_ ?_
      rotate_left
      · first | (refine Or.inr ⟨?_, ?_⟩ <;> rfl) | (refine Or.inl ⟨by rfl, ?_⟩; intro w hSw; (try dsimp only at hSw); first | (go_simp; done) | (go_simp; with_reducible rfl))
      try simp only [Act.put, List.setIfInBounds_toArray, List.set_cons_zero, List.set_cons_succ]
      refine held_take 2 (v := ?_) rfl (by kernel_rfl) (by kernel_rfl) (by kernel_rfl) (fun _ _ _ h => h) (by assumption) ?_ ?_
      rotate_left
      · first | (refine Or.inr ⟨?_, ?_⟩ <;> rfl) | (refine Or.inl ⟨by rfl, ?_⟩; intro w hSw; (try dsimp only at hSw); first | (go_simp; done) | (go_simp; with_reducible rfl))
      try simp only [Act.put, List.setIfInBounds_toArray, List.set_cons_zero, List.set_cons_succ]
      refine held_take 3 (v := ?_) rfl (by kernel_rfl) (by kernel_rfl) (by kernel_rfl) (fun _ _ _ h => h) (by assumption) ?_ ?_
      rotate_left
      · first | (refine Or.inr ⟨?_, ?_⟩ <;> rfl) | (refine Or.inl ⟨by rfl, ?_⟩; intro w hSw; (try dsimp only at hSw); first | (go_simp; done) | (go_simp; with_reducible rfl))
      try simp only [Act.put, List.setIfInBounds_toArray, List.set_cons_zero, List.set_cons_succ]
      refine held_take 5 (v := ?_) rfl (by kernel_rfl) (by kernel_rfl) (by kernel_rfl) (fun _ _ _ h => h) (by assumption) ?_ ?_
      rotate_left
      · first | (refine Or.inr ⟨?_, ?_⟩ <;> rfl) | (refine Or.inl ⟨by rfl, ?_⟩; intro w hSw; (try dsimp only at hSw); first | (go_simp; done) | (go_simp; with_reducible rfl))
      try simp only [Act.put, List.setIfInBounds_toArray, List.set_cons_zero, List.set_cons_succ]
      refine held_call 4 rfl (by kernel_rfl) (fun K hK => ?_)
      go_simp
      with_reducible refine ((cP _ (Below.refl _ _).drew)).mono ?_
      rintro e w4 ⟨_, rfl, ⟨ap, cp, rfl, hsp⟩, hfp, hbk⟩
      have hb4 := hbk
      refine hK.out _ _ ?_ (fun hHeld => ?_)
      · first | exact hHeld | exact ⟨cell_keep' hHeld.1 hbk, cell_keep' hHeld.2.1 hbk, hHeld.2.2.1.keep hbk (Nat.le_refl _), hHeld.2.2.2.1.keep hbk (Nat.le_refl _), bstep hHeld.2.2.2.2.1 hbk (Nat.le_refl _), Nat.le_trans hHeld.2.2.2.2.2.1 hbk.size, hHeld.2.2.2.2.2.2.1.keep hbk, hHeld.2.2.2.2.2.2.2.imp fun _ => Exists.imp fun _ => Exists.imp fun _ h => h.keep hbk (Nat.le_refl _)⟩
      clear hK K
      try simp only [Act.put, List.setIfInBounds_toArray, List.set_cons_zero, List.set_cons_succ]
      refine held_take 6 (v := ?_) rfl (by kernel_rfl) (by kernel_rfl) (by kernel_rfl) (fun _ _ _ h => h) (by assumption) ?_ ?_
      rotate_left
      · first | (refine Or.inr ⟨?_, ?_⟩ <;> rfl) | (refine Or.inl ⟨by rfl, ?_⟩; intro w hSw; (try dsimp only at hSw); first | (go_simp; done) | (go_simp; with_reducible rfl))
      try simp only [Act.put, List.setIfInBounds_toArray, List.set_cons_zero, List.set_cons_succ]
      refine held_call 7 rfl (by kernel_rfl) (fun K hK => ?_)
      obtain ⟨q0, q1, q2, hq⟩ := hHeld.2.2.2.2.2.2.2
      obtain ⟨y0, y1, y2, y3, y4, y5⟩ := hq.three
      have HP := Lib.hid (natV_set3 (NatV.keep (w := w4) ⟨ap, cp, rfl, hsp⟩ (Below.refl _ _)) hq (.inl (FreshV.low hfp (by have h1 := HSZ.out; simp; omega))) (.bool n2) (.slice ap (digs (Y - X)).length cp) (.slice az lz cz))
      have HZ2 := Lib.hid (natV_set3 hHeld.2.2.2.2.2.2.1 hq (.inl (FreshV.low HFZ.out (Nat.le_refl _))) (.bool n2) (.slice ap (digs (Y - X)).length cp) (.slice az lz cz))
      have HQ := Lib.hid (hq.set3 (.bool n2) (.slice ap (digs (Y - X)).length cp) (.slice az lz cz))
      have HBW2 := Lib.hid (below_set3 hHeld.2.2.2.2.1 (Nat.le_add_right w.heap.size 2) (.bool n2) (.slice ap (digs (Y - X)).length cp) (.slice az lz cz))
      have HT := Lib.hid (hHeld.2.2.1.other3 (show w.heap.size + 1 + 1 ≠ w.heap.size by omega) (.bool n2) (.slice ap (digs (Y - X)).length cp) (.slice az lz cz))
      have HT2 := Lib.hid (hHeld.2.2.2.1.other3 (show w.heap.size + 1 + 1 ≠ w.heap.size + 1 by omega) (.bool n2) (.slice ap (digs (Y - X)).length cp) (.slice az lz cz))
      go_simp
      refine hK.out _ _ ?_ (fun hHeld2 => ?_)
      · exact ⟨HT.out.three.1, HT2.out.three.1, HT.out, HT2.out, HBW2.out, by simpa using hHeld.2.2.2.2.2.1, HZ2.out, _, _, _, HQ.out⟩
      clear hK K hHeld hHeld2 y0 y1 y2 y3 y4 y5 hsp hq
      refine wpAnyH_done (by kernel_rfl) ?_ _
      obtain ⟨y0, y1, y2, y3, y4, y5⟩ := HQ.out.three
      go_wp2_with fail
      exact bodyPost_ret (v := .agg #[.bool n2, .slice ap (digs (Y - X)).length cp, .slice az lz cz]) (by simp [results, Tryz.results123, go_sem, y0, y1, y2]) rfl ⟨_, rfl, ⟨_, _, rfl, HP.out, HZ2.out⟩, HBW2.out⟩
end Go.Proofs.YtajebceanonalaaGreatDoor

namespace Go.Proofs.YtajebceanonalaaGreatDoor
set_option linter.unusedVariables false
open Go.RowKit

def refargV : Value := .tuple #[.agg #[.int .i64 0, .int .i64 0], .int .i64 1]
def refsumV (na da nb db : Int) (less : Bool) : Value :=
  if rightB na da && rightB nb db then refV (fracI (na * db + (if less then -nb else nb) * da) (da.natAbs * db.natAbs)) else refargV
theorem sgn_self (X : Int) : sgn (decide (X < 0)) X.natAbs = X := by
  unfold sgn
  by_cases h : X < 0
  · rw [decide_eq_true h, if_pos rfl]; omega
  · rw [decide_eq_false h, if_neg (by decide)]; omega
theorem sgn_not (b : Bool) (N : Nat) : sgn (!b) N = -(sgn b N) := by cases b <;> simp [sgn]
theorem sumF_le (n1 : Bool) (A D : Nat) (n2 : Bool) (B E : Nat) : (sumF n1 A D n2 B E).2 ≤ A * E + B * D := by
  unfold sumF
  split
  · exact Nat.le_refl _
  · split
    · exact Nat.le_trans (Nat.sub_le _ _) (Nat.le_add_right _ _)
    · exact Nat.le_trans (Nat.sub_le _ _) (Nat.le_add_left _ _)
theorem sumF_len {A D B E : Nat} (n1 n2 : Bool) (hA : A < 18446744073709551616) (hD : D < 18446744073709551616) (hB : B < 18446744073709551616) (hE : E < 18446744073709551616) : (digs (sumF n1 A D n2 B E).2).length ≤ 1000 := by
  refine Nat.le_trans ((digs_len _ 5).2 ?_) (by decide)
  have h1 := (digs_len _ _).1 (len_mul (digs64 hA) (digs64 hE))
  have h2 := (digs_len _ _).1 (len_mul (digs64 hB) (digs64 hD))
  have h3 := sumF_le n1 A D n2 B E
  rw [show (4294967296 : Nat) ^ (2 + 2) = 340282366920938463463374607431768211456 by decide +kernel] at h1 h2
  rw [show (4294967296 : Nat) ^ 5 = 1461501637330902918203684832716283019655932542976 by decide +kernel]
  omega
theorem refsum_val (na da nb db : Int) (less : Bool) (h1 : 0 < da) (h2 : 0 < db) :
    frac (sumF (decide (na < 0)) na.natAbs da.natAbs (less != decide (nb < 0)) nb.natAbs db.natAbs).1 (sumF (decide (na < 0)) na.natAbs da.natAbs (less != decide (nb < 0)) nb.natAbs db.natAbs).2 (da.natAbs * db.natAbs) = fracI (na * db + (if less then -nb else nb) * da) (da.natAbs * db.natAbs) := by
  have hp : 0 < da.natAbs * db.natAbs := Nat.mul_pos (by omega) (by omega)
  unfold fracI
  refine frac_congr _ _ _ _ _ _ hp hp ?_
  rw [sumF_val, sgn_self, sgn_self]
  have e1 : (db.natAbs : Int) = db := by omega
  have e2 : (da.natAbs : Int) = da := by omega
  have e3 : sgn (less != decide (nb < 0)) nb.natAbs = if less then -nb else nb := by
    cases less
    · simp [sgn_self]
    · rw [Bool.true_bne, sgn_not, sgn_self]; rfl
  rw [e3, e1, e2]
theorem blk2_set {w : World} {k : Nat} {x y : Value} (h : Blk w k #[x, y]) (a b : Value) : Blk ((w.setCell ⟨k, 0, none⟩ a).setCell ⟨k, 1, none⟩ b) k #[a, b] := (h.set 0 a).set 1 b
theorem blk2_other {w : World} {k g : Nat} {cs : Array Value} (h : Blk w k cs) (hg : g ≠ k) (a b : Value) : Blk ((w.setCell ⟨g, 0, none⟩ a).setCell ⟨g, 1, none⟩ b) k cs := (h.other hg a).other hg b
theorem below_set2 {B g : Nat} {w w' : World} (h : Below B w w') (hg : B ≤ g) (a b : Value) : Below B w ((w'.setCell ⟨g, 0, none⟩ a).setCell ⟨g, 1, none⟩ b) := (h.setCell hg a).setCell hg b
theorem refV_shape (r : Option (Int × Int)) : ∃ x y k : Int, refV r = .tuple #[.agg #[.int .i64 x, .int .i64 y], .int .i64 k] := by
  cases r with
  | none => exact ⟨0, 0, 9, rfl⟩
  | some p => exact ⟨p.1, p.2, 0, rfl⟩

set_option maxRecDepth 100000 in
set_option maxHeartbeats 2000000 in
theorem refadd_bad (na da nb db : Int) (h1 : In64 na) (h2 : In64 da) (h3 : In64 nb) (h4 : In64 db) (hb : rightB na da = false ∨ rightB nb db = false) (w : World) :
    Calls Tryz.prog 84 #[.agg #[.int .i64 na, .int .i64 da], .agg #[.int .i64 nb, .int .i64 db]] w fun e w' => e = .returned (.tuple #[.agg #[.int .i64 0, .int .i64 0], .int .i64 1]) ∧ Below w.heap.size w w' := by
  have ca := refright_any na da h1 h2
  have cb := refright_any nb db h3 h4
  have hbx := box3 w #[.int .i64 na, .int .i64 da] #[.int .i64 nb, .int .i64 db] #[.int .i64 0, .int .i64 0] 23 23 23
  obtain ⟨ta, tb, tr, hsz, hbw⟩ := hbx
  have TA := Lib.hid ta
  have TB := Lib.hid tb
  have TR := Lib.hid tr
  have HBW := Lib.hid hbw
  have HSZ := Lib.hid hsz
  clear ta tb hsz hbw
  cases ha : rightB na da
  · rw [ha] at ca
    clear cb hb
    go_enter Tryz.func84, Tryz.ntmps84
    go_wp2_with fail
    with_reducible refine (ca _).mono ?_
    rintro e w1 ⟨rfl, hb1⟩
    replace HBW := Lib.hid (bstep HBW.out hb1 (Nat.le_refl _))
    obtain ⟨r0, r1, r2, r3⟩ := (TR.out.keep hb1 (Nat.le_refl _)).two
    clear ca hb1
    go_wp2_with fail
    exact bodyPost_ret (v := .tuple #[.agg #[.int .i64 0, .int .i64 0], .int .i64 1]) (by simp [results, Tryz.results84, go_sem, r0, r1]) rfl ⟨rfl, by first | exact HBW.out | exact below_set2 HBW.out (by omega) _ _⟩
  · have hb2 : rightB nb db = false := by rcases hb with h | h; · rw [ha] at h; cases h
                                          · exact h
    rw [ha] at ca
    rw [hb2] at cb
    clear hb
    go_enter Tryz.func84, Tryz.ntmps84
    go_wp2_with fail
    with_reducible refine (ca _).mono ?_
    rintro e w1 ⟨rfl, hb1⟩
    replace HBW := Lib.hid (bstep HBW.out hb1 (Nat.le_refl _))
    replace TB := Lib.hid (TB.out.keep hb1 (Nat.le_refl _))
    obtain ⟨x0, x1, _, _⟩ := TB.out.two
    replace TR := Lib.hid (TR.out.keep hb1 (Nat.le_refl _))
    clear ca hb1
    go_wp2_with fail
    with_reducible refine (cb _).mono ?_
    rintro e w2 ⟨rfl, hb1⟩
    replace HBW := Lib.hid (bstep HBW.out hb1 (Nat.le_refl _))
    obtain ⟨r0, r1, r2, r3⟩ := (TR.out.keep hb1 (Nat.le_refl _)).two
    clear cb hb1
    go_wp2_with fail
    exact bodyPost_ret (v := .tuple #[.agg #[.int .i64 0, .int .i64 0], .int .i64 1]) (by simp [results, Tryz.results84, go_sem, r0, r1]) rfl ⟨rfl, by first | exact HBW.out | exact below_set2 HBW.out (by omega) _ _⟩

set_option maxRecDepth 100000 in
set_option maxHeartbeats 4000000 in
theorem refadd_ok (na da nb db : Int) (ha : RightP na da) (hb : RightP nb db) (w : World) :
    Calls Tryz.prog 84 #[.agg #[.int .i64 na, .int .i64 da], .agg #[.int .i64 nb, .int .i64 db]] w fun e w' => e = .returned (refV (fracI (na * db + (if false then -nb else nb) * da) (da.natAbs * db.natAbs))) ∧ Below w.heap.size w w' := by
  obtain ⟨a1, a2, a3, a4, a5⟩ := ha
  obtain ⟨b1, b2, b3, b4, b5⟩ := hb
  have ra := (rightB_iff na da ⟨a3, a4⟩ ⟨by omega, by omega⟩).2 ⟨a1, a2, a3, a4, a5⟩
  have rb := (rightB_iff nb db ⟨b3, b4⟩ ⟨by omega, by omega⟩).2 ⟨b1, b2, b3, b4, b5⟩
  have ca := refright_any na da ⟨a3, a4⟩ ⟨by omega, by omega⟩
  have cb := refright_any nb db ⟨b3, b4⟩ ⟨by omega, by omega⟩
  rw [ra] at ca
  rw [rb] at cb
  have ofa := of_any na da ⟨a3, a4⟩ ⟨by omega, by omega⟩
  have ofb := of_any nb db ⟨b3, b4⟩ ⟨by omega, by omega⟩
  have k1 : na.natAbs < 18446744073709551616 := by omega
  have k2 : da.natAbs < 18446744073709551616 := by omega
  have k3 : nb.natAbs < 18446744073709551616 := by omega
  have k4 : db.natAbs < 18446744073709551616 := by omega
  have hDE : 0 < da.natAbs * db.natAbs := Nat.mul_pos (by omega) (by omega)
  have hval := refsum_val na da nb db false (by omega) (by omega)
  rw [Bool.false_bne] at hval
  rw [← hval]
  have hlen := sumF_len (decide (na < 0)) (decide (nb < 0)) k1 k2 k3 k4
  obtain ⟨V, hV⟩ : ∃ V, V = refV (frac (sumF (decide (na < 0)) na.natAbs da.natAbs (decide (nb < 0)) nb.natAbs db.natAbs).1 (sumF (decide (na < 0)) na.natAbs da.natAbs (decide (nb < 0)) nb.natAbs db.natAbs).2 (da.natAbs * db.natAbs)) := ⟨_, rfl⟩
  rw [← hV]
  obtain ⟨X, Y, kk, hsh⟩ := refV_shape (frac (sumF (decide (na < 0)) na.natAbs da.natAbs (decide (nb < 0)) nb.natAbs db.natAbs).1 (sumF (decide (na < 0)) na.natAbs da.natAbs (decide (nb < 0)) nb.natAbs db.natAbs).2 (da.natAbs * db.natAbs))
  have HV := Lib.hid (hV.trans hsh)
  have HSH := Lib.hid hsh
  have HLEN := Lib.hid (And.intro hlen (And.intro hDE (And.intro (And.intro k1 k2) (And.intro k3 k4))))
  clear hV hsh hval hlen hDE k1 k2 k3 k4
  have hbx := box3 w #[.int .i64 na, .int .i64 da] #[.int .i64 nb, .int .i64 db] #[.int .i64 0, .int .i64 0] 23 23 23
  obtain ⟨ta, tb, tr, hsz, hbw⟩ := hbx
  have TA := Lib.hid ta
  have TB := Lib.hid tb
  have TR := Lib.hid tr
  have HBW := Lib.hid hbw
  clear ta tb tr hsz hbw
  clear a1 a2 a3 a4 a5 b1 b2 b3 b4 b5 ra rb
  go_enter Tryz.func84, Tryz.ntmps84
  go_wp2_with fail
  with_reducible refine (ca _).mono ?_
  rintro e w1 ⟨rfl, hb1⟩
  replace HBW := Lib.hid (bstep HBW.out hb1 (Nat.le_refl _))
  replace TA := Lib.hid (TA.out.keep hb1 (Nat.le_refl _))
  replace TB := Lib.hid (TB.out.keep hb1 (Nat.le_refl _))
  replace TR := Lib.hid (TR.out.keep hb1 (Nat.le_refl _))
  obtain ⟨x0, x1, _, _⟩ := TB.out.two
  clear ca hb1
  go_wp2_with fail
  with_reducible refine (cb _).mono ?_
  rintro e w2 ⟨rfl, hb1⟩
  replace HBW := Lib.hid (bstep HBW.out hb1 (Nat.le_refl _))
  replace TA := Lib.hid (TA.out.keep hb1 (Nat.le_refl _))
  replace TB := Lib.hid (TB.out.keep hb1 (Nat.le_refl _))
  replace TR := Lib.hid (TR.out.keep hb1 (Nat.le_refl _))
  clear x0 x1 cb hb1
  obtain ⟨x0, x1, _, _⟩ := TA.out.two
  obtain ⟨y0, y1, _, _⟩ := TB.out.two
  go_wp2_with fail
  refine wp_region_held_drew (S := (fun (w' : World) => w'.cell? ⟨w.heap.size, 0, none⟩ = some (.int .i64 na) ∧ w'.cell? ⟨w.heap.size, 1, none⟩ = some (.int .i64 da) ∧ w'.cell? ⟨w.heap.size + 1, 0, none⟩ = some (.int .i64 nb) ∧ w'.cell? ⟨w.heap.size + 1, 1, none⟩ = some (.int .i64 db) ∧ Blk w' w.heap.size #[.int .i64 na, .int .i64 da] ∧ Blk w' (w.heap.size + 1) #[.int .i64 nb, .int .i64 db] ∧ Below w.heap.size w w' ∧ ∃ x y, Blk w' (w.heap.size + 1 + 1) #[x, y])) (by kernel_rfl) ⟨x0, x1, y0, y1, TA.out.keep (Below.refl _ _).drew (Nat.le_refl _), TB.out.keep (Below.refl _ _).drew (Nat.le_refl _), HBW.out.drew, _, _, TR.out.keep (Below.refl _ _).drew (Nat.le_refl _)⟩ (fun hHeld => ?_)
  refine held_take 0 (v := ?_) rfl (by kernel_rfl) (by kernel_rfl) (by kernel_rfl) (fun _ _ _ h => h) (by assumption) ?_ ?_
  rotate_left
  · first | (refine Or.inr ⟨?_, ?_⟩ <;> rfl) | (refine Or.inl ⟨by rfl, ?_⟩; intro w hSw; (try dsimp only at hSw); first | (go_simp; done) | (go_simp; with_reducible rfl))
  try simp only [Act.put, List.setIfInBounds_toArray, List.set_cons_zero, List.set_cons_succ]
  refine held_take 2 (v := ?_) rfl (by kernel_rfl) (by kernel_rfl) (by kernel_rfl) (fun _ _ _ h => h) (by assumption) ?_ ?_
  rotate_left
  · first | (refine Or.inr ⟨?_, ?_⟩ <;> rfl) | (refine Or.inl ⟨by rfl, ?_⟩; intro w hSw; (try dsimp only at hSw); first | (go_simp; done) | (go_simp; with_reducible rfl))
  try simp only [Act.put, List.setIfInBounds_toArray, List.set_cons_zero, List.set_cons_succ]
  refine held_call 1 rfl (by kernel_rfl) (fun K hK => ?_)
  go_simp
  with_reducible refine (ofa _).mono ?_
  rintro e w3 ⟨_, rfl, hf3, hbk⟩
  have hb3 := hbk
  refine hK.out _ _ ?_ (fun hHeld => ?_)
  · first | exact hHeld | exact ⟨cell_keep' hHeld.1 hbk, cell_keep' hHeld.2.1 hbk, cell_keep' hHeld.2.2.1 hbk, cell_keep' hHeld.2.2.2.1 hbk, hHeld.2.2.2.2.1.keep hbk (Nat.le_refl _), hHeld.2.2.2.2.2.1.keep hbk (Nat.le_refl _), bstep hHeld.2.2.2.2.2.2.1 hbk (Nat.le_refl _), hHeld.2.2.2.2.2.2.2.imp fun _ => Exists.imp fun _ h => h.keep hbk (Nat.le_refl _)⟩
  clear hK K
  try simp only [Act.put, List.setIfInBounds_toArray, List.set_cons_zero, List.set_cons_succ]
  refine held_call 3 rfl (by kernel_rfl) (fun K hK => ?_)
  go_simp
  with_reducible refine (ofb _).mono ?_
  rintro e w4 ⟨_, rfl, hf4, hbk⟩
  have hb4 := hbk
  refine hK.out _ _ ?_ (fun hHeld => ?_)
  · first | exact hHeld | exact ⟨cell_keep' hHeld.1 hbk, cell_keep' hHeld.2.1 hbk, cell_keep' hHeld.2.2.1 hbk, cell_keep' hHeld.2.2.2.1 hbk, hHeld.2.2.2.2.1.keep hbk (Nat.le_refl _), hHeld.2.2.2.2.2.1.keep hbk (Nat.le_refl _), bstep hHeld.2.2.2.2.2.2.1 hbk (Nat.le_refl _), hHeld.2.2.2.2.2.2.2.imp fun _ => Exists.imp fun _ h => h.keep hbk (Nat.le_refl _)⟩
  clear hK K
  try simp only [Act.put, List.setIfInBounds_toArray, List.set_cons_zero, List.set_cons_succ]
  refine held_call 4 rfl (by kernel_rfl) (fun K hK => ?_)
  go_simp
  with_reducible refine (refsum_any _ _ _ _ _ _ (by have := digs64 HLEN.out.2.2.1.1; omega) (by have := digs64 HLEN.out.2.2.1.2; omega) (by have := digs64 HLEN.out.2.2.2.1; omega) (by have := digs64 HLEN.out.2.2.2.2; omega) _ _ _ (hf3.keep hb4) hf4).mono ?_
  rintro e w5 ⟨_, rfl, ⟨_, _, rfl, ⟨an, cn, rfl, hsn⟩, ⟨ad, cd, rfl, hsd⟩⟩, hbk⟩
  refine hK.out _ _ ?_ (fun hHeld => ?_)
  · first | exact hHeld | exact ⟨cell_keep' hHeld.1 hbk, cell_keep' hHeld.2.1 hbk, cell_keep' hHeld.2.2.1 hbk, cell_keep' hHeld.2.2.2.1 hbk, hHeld.2.2.2.2.1.keep hbk (Nat.le_refl _), hHeld.2.2.2.2.2.1.keep hbk (Nat.le_refl _), bstep hHeld.2.2.2.2.2.2.1 hbk (Nat.le_refl _), hHeld.2.2.2.2.2.2.2.imp fun _ => Exists.imp fun _ h => h.keep hbk (Nat.le_refl _)⟩
  clear hK K
  try simp only [Act.put, List.setIfInBounds_toArray, List.set_cons_zero, List.set_cons_succ]
  refine held_call 5 rfl (by kernel_rfl) (fun K hK => ?_)
  go_simp
  with_reducible refine (lowest_any _ _ _ HLEN.out.2.1 (Nat.le_trans HLEN.out.1 (by decide)) (Nat.le_trans (len_mul (digs64 HLEN.out.2.2.1.2) (digs64 HLEN.out.2.2.2.2)) (by decide)) _ _ _ _ _ hsn hsd).mono ?_
  rw [HSH.out]
  rintro e w6 ⟨rfl, hbk⟩
  refine hK.out _ _ ?_ (fun hHeld => ?_)
  · first | exact hHeld | exact ⟨cell_keep' hHeld.1 hbk, cell_keep' hHeld.2.1 hbk, cell_keep' hHeld.2.2.1 hbk, cell_keep' hHeld.2.2.2.1 hbk, hHeld.2.2.2.2.1.keep hbk (Nat.le_refl _), hHeld.2.2.2.2.2.1.keep hbk (Nat.le_refl _), bstep hHeld.2.2.2.2.2.2.1 hbk (Nat.le_refl _), hHeld.2.2.2.2.2.2.2.imp fun _ => Exists.imp fun _ h => h.keep hbk (Nat.le_refl _)⟩
  clear hK K
  try simp only [Act.put, List.setIfInBounds_toArray, List.set_cons_zero, List.set_cons_succ]
  refine held_take 6 (v := ?_) rfl (by kernel_rfl) (by kernel_rfl) (by kernel_rfl) (fun _ _ _ h => h) (by assumption) ?_ ?_
  rotate_left
  · first | (refine Or.inr ⟨?_, ?_⟩ <;> rfl) | (refine Or.inl ⟨by rfl, ?_⟩; intro w hSw; (try dsimp only at hSw); first | (go_simp; done) | (go_simp; with_reducible rfl))
  try simp only [Act.put, List.setIfInBounds_toArray, List.set_cons_zero, List.set_cons_succ]
  refine held_take 7 (v := ?_) rfl (by kernel_rfl) (by kernel_rfl) (by kernel_rfl) (fun _ _ _ h => h) (by assumption) ?_ ?_
  rotate_left
  · first | (refine Or.inr ⟨?_, ?_⟩ <;> rfl) | (refine Or.inl ⟨by rfl, ?_⟩; intro w hSw; (try dsimp only at hSw); first | (go_simp; done) | (go_simp; with_reducible rfl))
  try simp only [Act.put, List.setIfInBounds_toArray, List.set_cons_zero, List.set_cons_succ]
  refine held_call 8 rfl (by kernel_rfl) (fun K hK => ?_)
  obtain ⟨q0, q1, hq⟩ := hHeld.2.2.2.2.2.2.2
  obtain ⟨z0, z1, z2, z3⟩ := hq.two
  have HQ := Lib.hid (blk2_set hq (.int .i64 X) (.int .i64 Y))
  have HBW2 := Lib.hid (below_set2 hHeld.2.2.2.2.2.2.1 (Nat.le_add_right w.heap.size 2) (.int .i64 X) (.int .i64 Y))
  have HT := Lib.hid (blk2_other hHeld.2.2.2.2.1 (show w.heap.size + 1 + 1 ≠ w.heap.size by omega) (.int .i64 X) (.int .i64 Y))
  have HT2 := Lib.hid (blk2_other hHeld.2.2.2.2.2.1 (show w.heap.size + 1 + 1 ≠ w.heap.size + 1 by omega) (.int .i64 X) (.int .i64 Y))
  go_simp
  refine hK.out _ _ ?_ (fun hHeld2 => ?_)
  · exact ⟨HT.out.two.1, HT.out.two.2.1, HT2.out.two.1, HT2.out.two.2.1, HT.out, HT2.out, HBW2.out, _, _, HQ.out⟩
  clear hK K hHeld z0 z1 z2 z3 hq
  try simp only [Act.put, List.setIfInBounds_toArray, List.set_cons_zero, List.set_cons_succ]
  refine held_call 9 rfl (by kernel_rfl) (fun K hK => ?_)
  go_simp
  refine hK.out _ _ hHeld2 (fun hHeld => ?_)
  clear hK K hHeld2
  try simp only [Act.put, List.setIfInBounds_toArray, List.set_cons_zero, List.set_cons_succ]
  refine wpAnyH_done (by kernel_rfl) ?_ _
  obtain ⟨z0, z1, z2, z3⟩ := HQ.out.two
  go_wp2_with fail
  exact bodyPost_ret (v := .tuple #[.agg #[.int .i64 X, .int .i64 Y], .int .i64 kk]) (by simp [results, Tryz.results84, go_sem, z0, z1]) rfl ⟨by rw [HV.out], HBW2.out⟩

set_option maxRecDepth 100000 in
set_option maxHeartbeats 2000000 in
theorem refsub_bad (na da nb db : Int) (h1 : In64 na) (h2 : In64 da) (h3 : In64 nb) (h4 : In64 db) (hb : rightB na da = false ∨ rightB nb db = false) (w : World) :
    Calls Tryz.prog 85 #[.agg #[.int .i64 na, .int .i64 da], .agg #[.int .i64 nb, .int .i64 db]] w fun e w' => e = .returned (.tuple #[.agg #[.int .i64 0, .int .i64 0], .int .i64 1]) ∧ Below w.heap.size w w' := by
  have ca := refright_any na da h1 h2
  have cb := refright_any nb db h3 h4
  have hbx := box3 w #[.int .i64 na, .int .i64 da] #[.int .i64 nb, .int .i64 db] #[.int .i64 0, .int .i64 0] 23 23 23
  obtain ⟨ta, tb, tr, hsz, hbw⟩ := hbx
  have TA := Lib.hid ta
  have TB := Lib.hid tb
  have TR := Lib.hid tr
  have HBW := Lib.hid hbw
  have HSZ := Lib.hid hsz
  clear ta tb hsz hbw
  cases ha : rightB na da
  · rw [ha] at ca
    clear cb hb
    go_enter Tryz.func85, Tryz.ntmps85
    go_wp2_with fail
    with_reducible refine (ca _).mono ?_
    rintro e w1 ⟨rfl, hb1⟩
    replace HBW := Lib.hid (bstep HBW.out hb1 (Nat.le_refl _))
    obtain ⟨r0, r1, r2, r3⟩ := (TR.out.keep hb1 (Nat.le_refl _)).two
    clear ca hb1
    go_wp2_with fail
    exact bodyPost_ret (v := .tuple #[.agg #[.int .i64 0, .int .i64 0], .int .i64 1]) (by simp [results, Tryz.results85, go_sem, r0, r1]) rfl ⟨rfl, by first | exact HBW.out | exact below_set2 HBW.out (by omega) _ _⟩
  · have hb2 : rightB nb db = false := by rcases hb with h | h; · rw [ha] at h; cases h
                                          · exact h
    rw [ha] at ca
    rw [hb2] at cb
    clear hb
    go_enter Tryz.func85, Tryz.ntmps85
    go_wp2_with fail
    with_reducible refine (ca _).mono ?_
    rintro e w1 ⟨rfl, hb1⟩
    replace HBW := Lib.hid (bstep HBW.out hb1 (Nat.le_refl _))
    replace TB := Lib.hid (TB.out.keep hb1 (Nat.le_refl _))
    obtain ⟨x0, x1, _, _⟩ := TB.out.two
    replace TR := Lib.hid (TR.out.keep hb1 (Nat.le_refl _))
    clear ca hb1
    go_wp2_with fail
    with_reducible refine (cb _).mono ?_
    rintro e w2 ⟨rfl, hb1⟩
    replace HBW := Lib.hid (bstep HBW.out hb1 (Nat.le_refl _))
    obtain ⟨r0, r1, r2, r3⟩ := (TR.out.keep hb1 (Nat.le_refl _)).two
    clear cb hb1
    go_wp2_with fail
    exact bodyPost_ret (v := .tuple #[.agg #[.int .i64 0, .int .i64 0], .int .i64 1]) (by simp [results, Tryz.results85, go_sem, r0, r1]) rfl ⟨rfl, by first | exact HBW.out | exact below_set2 HBW.out (by omega) _ _⟩

set_option maxRecDepth 100000 in
set_option maxHeartbeats 4000000 in
theorem refsub_ok (na da nb db : Int) (ha : RightP na da) (hb : RightP nb db) (w : World) :
    Calls Tryz.prog 85 #[.agg #[.int .i64 na, .int .i64 da], .agg #[.int .i64 nb, .int .i64 db]] w fun e w' => e = .returned (refV (fracI (na * db + (if true then -nb else nb) * da) (da.natAbs * db.natAbs))) ∧ Below w.heap.size w w' := by
  obtain ⟨a1, a2, a3, a4, a5⟩ := ha
  obtain ⟨b1, b2, b3, b4, b5⟩ := hb
  have ra := (rightB_iff na da ⟨a3, a4⟩ ⟨by omega, by omega⟩).2 ⟨a1, a2, a3, a4, a5⟩
  have rb := (rightB_iff nb db ⟨b3, b4⟩ ⟨by omega, by omega⟩).2 ⟨b1, b2, b3, b4, b5⟩
  have ca := refright_any na da ⟨a3, a4⟩ ⟨by omega, by omega⟩
  have cb := refright_any nb db ⟨b3, b4⟩ ⟨by omega, by omega⟩
  rw [ra] at ca
  rw [rb] at cb
  have ofa := of_any na da ⟨a3, a4⟩ ⟨by omega, by omega⟩
  have ofb := of_any nb db ⟨b3, b4⟩ ⟨by omega, by omega⟩
  have k1 : na.natAbs < 18446744073709551616 := by omega
  have k2 : da.natAbs < 18446744073709551616 := by omega
  have k3 : nb.natAbs < 18446744073709551616 := by omega
  have k4 : db.natAbs < 18446744073709551616 := by omega
  have hDE : 0 < da.natAbs * db.natAbs := Nat.mul_pos (by omega) (by omega)
  have hval := refsum_val na da nb db true (by omega) (by omega)
  rw [Bool.true_bne] at hval
  rw [← hval]
  have hlen := sumF_len (decide (na < 0)) (!decide (nb < 0)) k1 k2 k3 k4
  obtain ⟨V, hV⟩ : ∃ V, V = refV (frac (sumF (decide (na < 0)) na.natAbs da.natAbs (!decide (nb < 0)) nb.natAbs db.natAbs).1 (sumF (decide (na < 0)) na.natAbs da.natAbs (!decide (nb < 0)) nb.natAbs db.natAbs).2 (da.natAbs * db.natAbs)) := ⟨_, rfl⟩
  rw [← hV]
  obtain ⟨X, Y, kk, hsh⟩ := refV_shape (frac (sumF (decide (na < 0)) na.natAbs da.natAbs (!decide (nb < 0)) nb.natAbs db.natAbs).1 (sumF (decide (na < 0)) na.natAbs da.natAbs (!decide (nb < 0)) nb.natAbs db.natAbs).2 (da.natAbs * db.natAbs))
  have HV := Lib.hid (hV.trans hsh)
  have HSH := Lib.hid hsh
  have HLEN := Lib.hid (And.intro hlen (And.intro hDE (And.intro (And.intro k1 k2) (And.intro k3 k4))))
  clear hV hsh hval hlen hDE k1 k2 k3 k4
  have hbx := box3 w #[.int .i64 na, .int .i64 da] #[.int .i64 nb, .int .i64 db] #[.int .i64 0, .int .i64 0] 23 23 23
  obtain ⟨ta, tb, tr, hsz, hbw⟩ := hbx
  have TA := Lib.hid ta
  have TB := Lib.hid tb
  have TR := Lib.hid tr
  have HBW := Lib.hid hbw
  clear ta tb tr hsz hbw
  clear a1 a2 a3 a4 a5 b1 b2 b3 b4 b5 ra rb
  go_enter Tryz.func85, Tryz.ntmps85
  go_wp2_with fail
  with_reducible refine (ca _).mono ?_
  rintro e w1 ⟨rfl, hb1⟩
  replace HBW := Lib.hid (bstep HBW.out hb1 (Nat.le_refl _))
  replace TA := Lib.hid (TA.out.keep hb1 (Nat.le_refl _))
  replace TB := Lib.hid (TB.out.keep hb1 (Nat.le_refl _))
  replace TR := Lib.hid (TR.out.keep hb1 (Nat.le_refl _))
  obtain ⟨x0, x1, _, _⟩ := TB.out.two
  clear ca hb1
  go_wp2_with fail
  with_reducible refine (cb _).mono ?_
  rintro e w2 ⟨rfl, hb1⟩
  replace HBW := Lib.hid (bstep HBW.out hb1 (Nat.le_refl _))
  replace TA := Lib.hid (TA.out.keep hb1 (Nat.le_refl _))
  replace TB := Lib.hid (TB.out.keep hb1 (Nat.le_refl _))
  replace TR := Lib.hid (TR.out.keep hb1 (Nat.le_refl _))
  clear x0 x1 cb hb1
  obtain ⟨x0, x1, _, _⟩ := TA.out.two
  obtain ⟨y0, y1, _, _⟩ := TB.out.two
  go_wp2_with fail
  refine wp_region_held_drew (S := (fun (w' : World) => w'.cell? ⟨w.heap.size, 0, none⟩ = some (.int .i64 na) ∧ w'.cell? ⟨w.heap.size, 1, none⟩ = some (.int .i64 da) ∧ w'.cell? ⟨w.heap.size + 1, 0, none⟩ = some (.int .i64 nb) ∧ w'.cell? ⟨w.heap.size + 1, 1, none⟩ = some (.int .i64 db) ∧ Blk w' w.heap.size #[.int .i64 na, .int .i64 da] ∧ Blk w' (w.heap.size + 1) #[.int .i64 nb, .int .i64 db] ∧ Below w.heap.size w w' ∧ ∃ x y, Blk w' (w.heap.size + 1 + 1) #[x, y])) (by kernel_rfl) ⟨x0, x1, y0, y1, TA.out.keep (Below.refl _ _).drew (Nat.le_refl _), TB.out.keep (Below.refl _ _).drew (Nat.le_refl _), HBW.out.drew, _, _, TR.out.keep (Below.refl _ _).drew (Nat.le_refl _)⟩ (fun hHeld => ?_)
  refine held_take 0 (v := ?_) rfl (by kernel_rfl) (by kernel_rfl) (by kernel_rfl) (fun _ _ _ h => h) (by assumption) ?_ ?_
  rotate_left
  · first | (refine Or.inr ⟨?_, ?_⟩ <;> rfl) | (refine Or.inl ⟨by rfl, ?_⟩; intro w hSw; (try dsimp only at hSw); first | (go_simp; done) | (go_simp; with_reducible rfl))
  try simp only [Act.put, List.setIfInBounds_toArray, List.set_cons_zero, List.set_cons_succ]
  refine held_take 2 (v := ?_) rfl (by kernel_rfl) (by kernel_rfl) (by kernel_rfl) (fun _ _ _ h => h) (by assumption) ?_ ?_
  rotate_left
  · first | (refine Or.inr ⟨?_, ?_⟩ <;> rfl) | (refine Or.inl ⟨by rfl, ?_⟩; intro w hSw; (try dsimp only at hSw); first | (go_simp; done) | (go_simp; with_reducible rfl))
  try simp only [Act.put, List.setIfInBounds_toArray, List.set_cons_zero, List.set_cons_succ]
  refine held_call 1 rfl (by kernel_rfl) (fun K hK => ?_)
  go_simp
  with_reducible refine (ofa _).mono ?_
  rintro e w3 ⟨_, rfl, hf3, hbk⟩
  have hb3 := hbk
  refine hK.out _ _ ?_ (fun hHeld => ?_)
  · first | exact hHeld | exact ⟨cell_keep' hHeld.1 hbk, cell_keep' hHeld.2.1 hbk, cell_keep' hHeld.2.2.1 hbk, cell_keep' hHeld.2.2.2.1 hbk, hHeld.2.2.2.2.1.keep hbk (Nat.le_refl _), hHeld.2.2.2.2.2.1.keep hbk (Nat.le_refl _), bstep hHeld.2.2.2.2.2.2.1 hbk (Nat.le_refl _), hHeld.2.2.2.2.2.2.2.imp fun _ => Exists.imp fun _ h => h.keep hbk (Nat.le_refl _)⟩
  clear hK K
  try simp only [Act.put, List.setIfInBounds_toArray, List.set_cons_zero, List.set_cons_succ]
  refine held_call 3 rfl (by kernel_rfl) (fun K hK => ?_)
  go_simp
  with_reducible refine (ofb _).mono ?_
  rintro e w4 ⟨_, rfl, hf4, hbk⟩
  have hb4 := hbk
  refine hK.out _ _ ?_ (fun hHeld => ?_)
  · first | exact hHeld | exact ⟨cell_keep' hHeld.1 hbk, cell_keep' hHeld.2.1 hbk, cell_keep' hHeld.2.2.1 hbk, cell_keep' hHeld.2.2.2.1 hbk, hHeld.2.2.2.2.1.keep hbk (Nat.le_refl _), hHeld.2.2.2.2.2.1.keep hbk (Nat.le_refl _), bstep hHeld.2.2.2.2.2.2.1 hbk (Nat.le_refl _), hHeld.2.2.2.2.2.2.2.imp fun _ => Exists.imp fun _ h => h.keep hbk (Nat.le_refl _)⟩
  clear hK K
  try simp only [Act.put, List.setIfInBounds_toArray, List.set_cons_zero, List.set_cons_succ]
  refine held_call 4 rfl (by kernel_rfl) (fun K hK => ?_)
  go_simp
  with_reducible refine (opposite_any _ _ _ _ _ hf4).mono ?_
  rintro e w7 ⟨_, rfl, hf7, hbk⟩
  have hb7 := hbk
  refine hK.out _ _ ?_ (fun hHeld => ?_)
  · first | exact hHeld | exact ⟨cell_keep' hHeld.1 hbk, cell_keep' hHeld.2.1 hbk, cell_keep' hHeld.2.2.1 hbk, cell_keep' hHeld.2.2.2.1 hbk, hHeld.2.2.2.2.1.keep hbk (Nat.le_refl _), hHeld.2.2.2.2.2.1.keep hbk (Nat.le_refl _), bstep hHeld.2.2.2.2.2.2.1 hbk (Nat.le_refl _), hHeld.2.2.2.2.2.2.2.imp fun _ => Exists.imp fun _ h => h.keep hbk (Nat.le_refl _)⟩
  clear hK K
  try simp only [Act.put, List.setIfInBounds_toArray, List.set_cons_zero, List.set_cons_succ]
  refine held_call 5 rfl (by kernel_rfl) (fun K hK => ?_)
  go_simp
  with_reducible refine (refsum_any _ _ _ _ _ _ (by have := digs64 HLEN.out.2.2.1.1; omega) (by have := digs64 HLEN.out.2.2.1.2; omega) (by have := digs64 HLEN.out.2.2.2.1; omega) (by have := digs64 HLEN.out.2.2.2.2; omega) _ _ _ ((hf3.keep hb4).keep hb7) hf7).mono ?_
  rintro e w5 ⟨_, rfl, ⟨_, _, rfl, ⟨an, cn, rfl, hsn⟩, ⟨ad, cd, rfl, hsd⟩⟩, hbk⟩
  refine hK.out _ _ ?_ (fun hHeld => ?_)
  · first | exact hHeld | exact ⟨cell_keep' hHeld.1 hbk, cell_keep' hHeld.2.1 hbk, cell_keep' hHeld.2.2.1 hbk, cell_keep' hHeld.2.2.2.1 hbk, hHeld.2.2.2.2.1.keep hbk (Nat.le_refl _), hHeld.2.2.2.2.2.1.keep hbk (Nat.le_refl _), bstep hHeld.2.2.2.2.2.2.1 hbk (Nat.le_refl _), hHeld.2.2.2.2.2.2.2.imp fun _ => Exists.imp fun _ h => h.keep hbk (Nat.le_refl _)⟩
  clear hK K
  try simp only [Act.put, List.setIfInBounds_toArray, List.set_cons_zero, List.set_cons_succ]
  refine held_call 6 rfl (by kernel_rfl) (fun K hK => ?_)
  go_simp
  with_reducible refine (lowest_any _ _ _ HLEN.out.2.1 (Nat.le_trans HLEN.out.1 (by decide)) (Nat.le_trans (len_mul (digs64 HLEN.out.2.2.1.2) (digs64 HLEN.out.2.2.2.2)) (by decide)) _ _ _ _ _ hsn hsd).mono ?_
  rw [HSH.out]
  rintro e w6 ⟨rfl, hbk⟩
  refine hK.out _ _ ?_ (fun hHeld => ?_)
  · first | exact hHeld | exact ⟨cell_keep' hHeld.1 hbk, cell_keep' hHeld.2.1 hbk, cell_keep' hHeld.2.2.1 hbk, cell_keep' hHeld.2.2.2.1 hbk, hHeld.2.2.2.2.1.keep hbk (Nat.le_refl _), hHeld.2.2.2.2.2.1.keep hbk (Nat.le_refl _), bstep hHeld.2.2.2.2.2.2.1 hbk (Nat.le_refl _), hHeld.2.2.2.2.2.2.2.imp fun _ => Exists.imp fun _ h => h.keep hbk (Nat.le_refl _)⟩
  clear hK K
  try simp only [Act.put, List.setIfInBounds_toArray, List.set_cons_zero, List.set_cons_succ]
  refine held_take 7 (v := ?_) rfl (by kernel_rfl) (by kernel_rfl) (by kernel_rfl) (fun _ _ _ h => h) (by assumption) ?_ ?_
  rotate_left
  · first | (refine Or.inr ⟨?_, ?_⟩ <;> rfl) | (refine Or.inl ⟨by rfl, ?_⟩; intro w hSw; (try dsimp only at hSw); first | (go_simp; done) | (go_simp; with_reducible rfl))
  try simp only [Act.put, List.setIfInBounds_toArray, List.set_cons_zero, List.set_cons_succ]
  refine held_take 8 (v := ?_) rfl (by kernel_rfl) (by kernel_rfl) (by kernel_rfl) (fun _ _ _ h => h) (by assumption) ?_ ?_
  rotate_left
  · first | (refine Or.inr ⟨?_, ?_⟩ <;> rfl) | (refine Or.inl ⟨by rfl, ?_⟩; intro w hSw; (try dsimp only at hSw); first | (go_simp; done) | (go_simp; with_reducible rfl))
  try simp only [Act.put, List.setIfInBounds_toArray, List.set_cons_zero, List.set_cons_succ]
  refine held_call 9 rfl (by kernel_rfl) (fun K hK => ?_)
  obtain ⟨q0, q1, hq⟩ := hHeld.2.2.2.2.2.2.2
  obtain ⟨z0, z1, z2, z3⟩ := hq.two
  have HQ := Lib.hid (blk2_set hq (.int .i64 X) (.int .i64 Y))
  have HBW2 := Lib.hid (below_set2 hHeld.2.2.2.2.2.2.1 (Nat.le_add_right w.heap.size 2) (.int .i64 X) (.int .i64 Y))
  have HT := Lib.hid (blk2_other hHeld.2.2.2.2.1 (show w.heap.size + 1 + 1 ≠ w.heap.size by omega) (.int .i64 X) (.int .i64 Y))
  have HT2 := Lib.hid (blk2_other hHeld.2.2.2.2.2.1 (show w.heap.size + 1 + 1 ≠ w.heap.size + 1 by omega) (.int .i64 X) (.int .i64 Y))
  go_simp
  refine hK.out _ _ ?_ (fun hHeld2 => ?_)
  · exact ⟨HT.out.two.1, HT.out.two.2.1, HT2.out.two.1, HT2.out.two.2.1, HT.out, HT2.out, HBW2.out, _, _, HQ.out⟩
  clear hK K hHeld z0 z1 z2 z3 hq
  try simp only [Act.put, List.setIfInBounds_toArray, List.set_cons_zero, List.set_cons_succ]
  refine held_call 10 rfl (by kernel_rfl) (fun K hK => ?_)
  go_simp
  refine hK.out _ _ hHeld2 (fun hHeld => ?_)
  clear hK K hHeld2
  try simp only [Act.put, List.setIfInBounds_toArray, List.set_cons_zero, List.set_cons_succ]
  refine wpAnyH_done (by kernel_rfl) ?_ _
  obtain ⟨z0, z1, z2, z3⟩ := HQ.out.two
  go_wp2_with fail
  exact bodyPost_ret (v := .tuple #[.agg #[.int .i64 X, .int .i64 Y], .int .i64 kk]) (by simp [results, Tryz.results85, go_sem, z0, z1]) rfl ⟨by rw [HV.out], HBW2.out⟩

end Go.Proofs.YtajebceanonalaaGreatDoor

namespace Go.Proofs.YtajebceanonalaaGreatDoor
set_option linter.unusedVariables false
open Go.RowKit

theorem frac_of_sgn {neg : Bool} {N D : Nat} {X : Int} (h : sgn neg N = X) (hD : 0 < D) : frac neg N D = fracI X D := by
  unfold fracI
  exact frac_congr _ _ _ _ _ _ hD hD (by rw [h, sgn_self])
theorem sgn_div2b (na nb db : Int) (h : 0 < db) : sgn (decide (na < 0) != decide (nb < 0)) (na.natAbs * db.natAbs) = if nb < 0 then -(na * db) else na * db := by
  rw [sgn_div2, show ((db.natAbs : Nat) : Int) = db by omega]


set_option maxRecDepth 100000 in
set_option maxHeartbeats 2000000 in
theorem refmul_bad (na da nb db : Int) (h1 : In64 na) (h2 : In64 da) (h3 : In64 nb) (h4 : In64 db) (hb : rightB na da = false ∨ rightB nb db = false) (w : World) :
    Calls Tryz.prog 86 #[.agg #[.int .i64 na, .int .i64 da], .agg #[.int .i64 nb, .int .i64 db]] w fun e w' => e = .returned (.tuple #[.agg #[.int .i64 0, .int .i64 0], .int .i64 1]) ∧ Below w.heap.size w w' := by
  have ca := refright_any na da h1 h2
  have cb := refright_any nb db h3 h4
  have hbx := box3 w #[.int .i64 na, .int .i64 da] #[.int .i64 nb, .int .i64 db] #[.int .i64 0, .int .i64 0] 23 23 23
  obtain ⟨ta, tb, tr, hsz, hbw⟩ := hbx
  have TA := Lib.hid ta
  have TB := Lib.hid tb
  have TR := Lib.hid tr
  have HBW := Lib.hid hbw
  have HSZ := Lib.hid hsz
  clear ta tb hsz hbw
  cases ha : rightB na da
  · rw [ha] at ca
    clear cb hb
    go_enter Tryz.func86, Tryz.ntmps86
    go_wp2_with fail
    with_reducible refine (ca _).mono ?_
    rintro e w1 ⟨rfl, hb1⟩
    replace HBW := Lib.hid (bstep HBW.out hb1 (Nat.le_refl _))
    obtain ⟨r0, r1, r2, r3⟩ := (TR.out.keep hb1 (Nat.le_refl _)).two
    clear ca hb1
    go_wp2_with fail
    exact bodyPost_ret (v := .tuple #[.agg #[.int .i64 0, .int .i64 0], .int .i64 1]) (by simp [results, Tryz.results86, go_sem, r0, r1]) rfl ⟨rfl, by first | exact HBW.out | exact below_set2 HBW.out (by omega) _ _⟩
  · have hb2 : rightB nb db = false := by rcases hb with h | h; · rw [ha] at h; cases h
                                          · exact h
    rw [ha] at ca
    rw [hb2] at cb
    clear hb
    go_enter Tryz.func86, Tryz.ntmps86
    go_wp2_with fail
    with_reducible refine (ca _).mono ?_
    rintro e w1 ⟨rfl, hb1⟩
    replace HBW := Lib.hid (bstep HBW.out hb1 (Nat.le_refl _))
    replace TB := Lib.hid (TB.out.keep hb1 (Nat.le_refl _))
    obtain ⟨x0, x1, _, _⟩ := TB.out.two
    replace TR := Lib.hid (TR.out.keep hb1 (Nat.le_refl _))
    clear ca hb1
    go_wp2_with fail
    with_reducible refine (cb _).mono ?_
    rintro e w2 ⟨rfl, hb1⟩
    replace HBW := Lib.hid (bstep HBW.out hb1 (Nat.le_refl _))
    obtain ⟨r0, r1, r2, r3⟩ := (TR.out.keep hb1 (Nat.le_refl _)).two
    clear cb hb1
    go_wp2_with fail
    exact bodyPost_ret (v := .tuple #[.agg #[.int .i64 0, .int .i64 0], .int .i64 1]) (by simp [results, Tryz.results86, go_sem, r0, r1]) rfl ⟨rfl, by first | exact HBW.out | exact below_set2 HBW.out (by omega) _ _⟩

set_option maxRecDepth 100000 in
set_option maxHeartbeats 4000000 in
theorem refmul_ok (na da nb db : Int) (ha : RightP na da) (hb : RightP nb db) (w : World) :
    Calls Tryz.prog 86 #[.agg #[.int .i64 na, .int .i64 da], .agg #[.int .i64 nb, .int .i64 db]] w fun e w' => e = .returned (refV (fracI (na * nb) (da.natAbs * db.natAbs))) ∧ Below w.heap.size w w' := by
  obtain ⟨a1, a2, a3, a4, a5⟩ := ha
  obtain ⟨b1, b2, b3, b4, b5⟩ := hb
  have ra := (rightB_iff na da ⟨a3, a4⟩ ⟨by omega, by omega⟩).2 ⟨a1, a2, a3, a4, a5⟩
  have rb := (rightB_iff nb db ⟨b3, b4⟩ ⟨by omega, by omega⟩).2 ⟨b1, b2, b3, b4, b5⟩
  have ca := refright_any na da ⟨a3, a4⟩ ⟨by omega, by omega⟩
  have cb := refright_any nb db ⟨b3, b4⟩ ⟨by omega, by omega⟩
  rw [ra] at ca
  rw [rb] at cb
  have ofa := of_any na da ⟨a3, a4⟩ ⟨by omega, by omega⟩
  have ofb := of_any nb db ⟨b3, b4⟩ ⟨by omega, by omega⟩
  have k1 : na.natAbs < 18446744073709551616 := by omega
  have k2 : da.natAbs < 18446744073709551616 := by omega
  have k3 : nb.natAbs < 18446744073709551616 := by omega
  have k4 : db.natAbs < 18446744073709551616 := by omega
  have hDE : 0 < da.natAbs * db.natAbs := Nat.mul_pos (by omega) (by omega)
  have hval : frac (decide (na < 0) != decide (nb < 0)) (na.natAbs * nb.natAbs) (da.natAbs * db.natAbs) = _ := frac_of_sgn (sgn_mul2 na nb) hDE
  rw [← hval]
  clear hval
  obtain ⟨sg, hsg⟩ : ∃ sg, sg = (decide (na < 0) != decide (nb < 0)) := ⟨_, rfl⟩
  rw [← hsg]
  have HSG := Lib.hid (show (!(decide (na < 0) == decide (nb < 0))) = sg from hsg.symm)
  obtain ⟨X, Y, kk, hsh⟩ := refV_shape (frac sg (na.natAbs * nb.natAbs) (da.natAbs * db.natAbs))
  have HV := Lib.hid hsh
  have HLEN := Lib.hid (And.intro hDE (And.intro (And.intro k1 k2) (And.intro k3 k4)))
  clear hsg hsh hDE k1 k2 k3 k4
  have hbx := box3 w #[.int .i64 na, .int .i64 da] #[.int .i64 nb, .int .i64 db] #[.int .i64 0, .int .i64 0] 23 23 23
  obtain ⟨ta, tb, tr, hsz, hbw⟩ := hbx
  have TA := Lib.hid ta
  have TB := Lib.hid tb
  have TR := Lib.hid tr
  have HBW := Lib.hid hbw
  clear ta tb tr hsz hbw
  clear a1 a2 a3 a4 a5 b1 b2 b3 b4 b5 ra rb
  go_enter Tryz.func86, Tryz.ntmps86
  go_wp2_with fail
  with_reducible refine (ca _).mono ?_
  rintro e w1 ⟨rfl, hb1⟩
  replace HBW := Lib.hid (bstep HBW.out hb1 (Nat.le_refl _))
  replace TA := Lib.hid (TA.out.keep hb1 (Nat.le_refl _))
  replace TB := Lib.hid (TB.out.keep hb1 (Nat.le_refl _))
  replace TR := Lib.hid (TR.out.keep hb1 (Nat.le_refl _))
  obtain ⟨x0, x1, _, _⟩ := TB.out.two
  clear ca hb1
  go_wp2_with fail
  with_reducible refine (cb _).mono ?_
  rintro e w2 ⟨rfl, hb1⟩
  replace HBW := Lib.hid (bstep HBW.out hb1 (Nat.le_refl _))
  replace TA := Lib.hid (TA.out.keep hb1 (Nat.le_refl _))
  replace TB := Lib.hid (TB.out.keep hb1 (Nat.le_refl _))
  replace TR := Lib.hid (TR.out.keep hb1 (Nat.le_refl _))
  clear x0 x1 cb hb1
  obtain ⟨x0, x1, _, _⟩ := TA.out.two
  obtain ⟨y0, y1, _, _⟩ := TB.out.two
  go_wp2_with fail
  with_reducible refine (ofa _).mono ?_
  rintro e w3 ⟨_, rfl, ⟨_, _, rfl, ⟨aa, cA, rfl, hsa⟩, ⟨ad, cD, rfl, hsd⟩⟩, hb1⟩
  replace HBW := Lib.hid (bstep HBW.out hb1 (Nat.le_refl _))
  replace TB := Lib.hid (TB.out.keep hb1 (Nat.le_refl _))
  replace TR := Lib.hid (TR.out.keep hb1 (Nat.le_refl _))
  clear ofa hb1 x0 x1 y0 y1
  obtain ⟨t6, hsz6, hb6⟩ := box1 w3 #[.bool (decide (na < 0)), .slice aa (digs na.natAbs).length cA, .slice ad (digs da.natAbs).length cD] 60
  have T6 := Lib.hid t6
  have HG6 := Lib.hid (show w.heap.size + 1 + 1 < w3.heap.size from TR.out.lt)
  replace HBW := Lib.hid (bstep HBW.out hb6 (Nat.le_refl _))
  replace TB := Lib.hid (TB.out.keep hb6 (Nat.le_refl _))
  replace TR := Lib.hid (TR.out.keep hb6 (Nat.le_refl _))
  have HA := Lib.hid (hsa.keep hb6 (Nat.le_refl _))
  have HD := Lib.hid (hsd.keep hb6 (Nat.le_refl _))
  clear t6 hsz6 hb6 hsa hsd
  obtain ⟨y0, y1, _, _⟩ := TB.out.two
  go_wp2_with fail
  with_reducible refine (ofb _).mono ?_
  rintro e w4 ⟨_, rfl, ⟨_, _, rfl, ⟨ab, cB, rfl, hsb⟩, ⟨ae, cE, rfl, hse⟩⟩, hb1⟩
  replace HBW := Lib.hid (bstep HBW.out hb1 (Nat.le_refl _))
  replace TR := Lib.hid (TR.out.keep hb1 (Nat.le_refl _))
  replace T6 := Lib.hid (T6.out.keep hb1 (Nat.le_refl _))
  replace HA := Lib.hid (HA.out.keep hb1 (Nat.le_refl _))
  replace HD := Lib.hid (HD.out.keep hb1 (Nat.le_refl _))
  clear ofb hb1 y0 y1 TB TA
  obtain ⟨t7, hsz7, hb7⟩ := box1 w4 #[.bool (decide (nb < 0)), .slice ab (digs nb.natAbs).length cB, .slice ae (digs db.natAbs).length cE] 60
  have T7 := Lib.hid t7
  have HG7 := Lib.hid (show w.heap.size + 1 + 1 < w4.heap.size from TR.out.lt)
  replace HBW := Lib.hid (bstep HBW.out hb7 (Nat.le_refl _))
  replace TR := Lib.hid (TR.out.keep hb7 (Nat.le_refl _))
  replace T6 := Lib.hid (T6.out.keep hb7 (Nat.le_refl _))
  replace HA := Lib.hid (HA.out.keep hb7 (Nat.le_refl _))
  replace HD := Lib.hid (HD.out.keep hb7 (Nat.le_refl _))
  have HB := Lib.hid (hsb.keep hb7 (Nat.le_refl _))
  have HE := Lib.hid (hse.keep hb7 (Nat.le_refl _))
  clear t7 hsz7 hb7 hsb hse
  go_wp2_with fail
  generalize w4.alloc (.cells #[.bool (decide (nb < 0)), .slice ab (digs nb.natAbs).length cB, .slice ae (digs db.natAbs).length cE] 60) = W at *
  generalize w3.heap.size = g6 at *
  generalize w4.heap.size = g7 at *
  obtain ⟨x0, x1, x2, _, _, _⟩ := T6.out.three
  obtain ⟨y0, y1, y2, _, _, _⟩ := T7.out.three
  refine wp_region_held_drew (S := (fun (w' : World) => w'.cell? ⟨g6, 0, none⟩ = some (.bool (decide (na < 0))) ∧ w'.cell? ⟨g6, 1, none⟩ = some (.slice aa (digs na.natAbs).length cA) ∧ w'.cell? ⟨g6, 2, none⟩ = some (.slice ad (digs da.natAbs).length cD) ∧ w'.cell? ⟨g7, 0, none⟩ = some (.bool (decide (nb < 0))) ∧ w'.cell? ⟨g7, 1, none⟩ = some (.slice ab (digs nb.natAbs).length cB) ∧ w'.cell? ⟨g7, 2, none⟩ = some (.slice ae (digs db.natAbs).length cE) ∧ Blk w' g6 #[.bool (decide (na < 0)), .slice aa (digs na.natAbs).length cA, .slice ad (digs da.natAbs).length cD] ∧ Blk w' g7 #[.bool (decide (nb < 0)), .slice ab (digs nb.natAbs).length cB, .slice ae (digs db.natAbs).length cE] ∧ Below w.heap.size w w' ∧ ∃ x y, Blk w' (w.heap.size + 1 + 1) #[x, y])) (by kernel_rfl) ⟨x0, x1, x2, y0, y1, y2, T6.out.keep (Below.refl _ _).drew (Nat.le_refl _), T7.out.keep (Below.refl _ _).drew (Nat.le_refl _), HBW.out.drew, _, _, TR.out.keep (Below.refl _ _).drew (Nat.le_refl _)⟩ (fun hHeld => ?_)
  refine held_take 0 (v := ?_) rfl (by kernel_rfl) (by kernel_rfl) (by kernel_rfl) (fun _ _ _ h => h) (by assumption) ?_ ?_
  rotate_left
  · first | (refine Or.inr ⟨?_, ?_⟩ <;> rfl) | (refine Or.inl ⟨by rfl, ?_⟩; intro w hSw; (try dsimp only at hSw); first | (go_simp; done) | (go_simp; with_reducible rfl))
  try simp only [Act.put, List.setIfInBounds_toArray, List.set_cons_zero, List.set_cons_succ]
  refine held_take 1 (v := ?_) rfl (by kernel_rfl) (by kernel_rfl) (by kernel_rfl) (fun _ _ _ h => h) (by assumption) ?_ ?_
  rotate_left
  · first | (refine Or.inr ⟨?_, ?_⟩ <;> rfl) | (refine Or.inl ⟨by rfl, ?_⟩; intro w hSw; (try dsimp only at hSw); first | (go_simp; done) | (go_simp; with_reducible rfl))
  try simp only [Act.put, List.setIfInBounds_toArray, List.set_cons_zero, List.set_cons_succ]
  refine held_take 2 (v := ?_) rfl (by kernel_rfl) (by kernel_rfl) (by kernel_rfl) (fun _ _ _ h => h) (by assumption) ?_ ?_
  rotate_left
  · first | (refine Or.inr ⟨?_, ?_⟩ <;> rfl) | (refine Or.inl ⟨by rfl, ?_⟩; intro w hSw; (try dsimp only at hSw); first | (go_simp; done) | (go_simp; with_reducible rfl))
  try simp only [Act.put, List.setIfInBounds_toArray, List.set_cons_zero, List.set_cons_succ]
  refine held_take 3 (v := ?_) rfl (by kernel_rfl) (by kernel_rfl) (by kernel_rfl) (fun _ _ _ h => h) (by assumption) ?_ ?_
  rotate_left
  · first | (refine Or.inr ⟨?_, ?_⟩ <;> rfl) | (refine Or.inl ⟨by rfl, ?_⟩; intro w hSw; (try dsimp only at hSw); first | (go_simp; done) | (go_simp; with_reducible rfl))
  try simp only [Act.put, List.setIfInBounds_toArray, List.set_cons_zero, List.set_cons_succ]
  refine held_take 4 (v := ?_) rfl (by kernel_rfl) (by kernel_rfl) (by kernel_rfl) (fun _ _ _ h => h) (by assumption) ?_ ?_
  rotate_left
  · first | (refine Or.inr ⟨?_, ?_⟩ <;> rfl) | (refine Or.inl ⟨by rfl, ?_⟩; intro w hSw; (try dsimp only at hSw); first | (go_simp; done) | (go_simp; with_reducible rfl))
  try simp only [Act.put, List.setIfInBounds_toArray, List.set_cons_zero, List.set_cons_succ]
  refine held_take 5 (v := ?_) rfl (by kernel_rfl) (by kernel_rfl) (by kernel_rfl) (fun _ _ _ h => h) (by assumption) ?_ ?_
  rotate_left
  · first | (refine Or.inr ⟨?_, ?_⟩ <;> rfl) | (refine Or.inl ⟨by rfl, ?_⟩; intro w hSw; (try dsimp only at hSw); first | (go_simp; done) | (go_simp; with_reducible rfl))
  try simp only [Act.put, List.setIfInBounds_toArray, List.set_cons_zero, List.set_cons_succ]
  refine held_take 6 (v := ?_) rfl (by kernel_rfl) (by kernel_rfl) (by kernel_rfl) (fun _ _ _ h => h) (by assumption) ?_ ?_
  rotate_left
  · first | (refine Or.inr ⟨?_, ?_⟩ <;> rfl) | (refine Or.inl ⟨by rfl, ?_⟩; intro w hSw; (try dsimp only at hSw); first | (go_simp; done) | (go_simp; with_reducible rfl))
  try simp only [Act.put, List.setIfInBounds_toArray, List.set_cons_zero, List.set_cons_succ]
  refine held_take 7 (v := ?_) rfl (by kernel_rfl) (by kernel_rfl) (by kernel_rfl) (fun _ _ _ h => h) (by assumption) ?_ ?_
  rotate_left
  · first | (refine Or.inr ⟨?_, ?_⟩ <;> rfl) | (refine Or.inl ⟨by rfl, ?_⟩; intro w hSw; (try dsimp only at hSw); first | (go_simp; done) | (go_simp; with_reducible rfl))
  try simp only [Act.put, List.setIfInBounds_toArray, List.set_cons_zero, List.set_cons_succ]
  refine held_take 8 (v := ?_) rfl (by kernel_rfl) (by kernel_rfl) (by kernel_rfl) (fun _ _ _ h => h) (by assumption) ?_ ?_
  rotate_left
  · first | (refine Or.inr ⟨?_, ?_⟩ <;> rfl) | (refine Or.inl ⟨by rfl, ?_⟩; intro w hSw; (try dsimp only at hSw); first | (go_simp; done) | (go_simp; with_reducible rfl))
  try simp only [Act.put, List.setIfInBounds_toArray, List.set_cons_zero, List.set_cons_succ]
  refine held_take 10 (v := ?_) rfl (by kernel_rfl) (by kernel_rfl) (by kernel_rfl) (fun _ _ _ h => h) (by assumption) ?_ ?_
  rotate_left
  · first | (refine Or.inr ⟨?_, ?_⟩ <;> rfl) | (refine Or.inl ⟨by rfl, ?_⟩; intro w hSw; (try dsimp only at hSw); first | (go_simp; done) | (go_simp; with_reducible rfl))
  try simp only [Act.put, List.setIfInBounds_toArray, List.set_cons_zero, List.set_cons_succ]
  refine held_take 11 (v := ?_) rfl (by kernel_rfl) (by kernel_rfl) (by kernel_rfl) (fun _ _ _ h => h) (by assumption) ?_ ?_
  rotate_left
  · first | (refine Or.inr ⟨?_, ?_⟩ <;> rfl) | (refine Or.inl ⟨by rfl, ?_⟩; intro w hSw; (try dsimp only at hSw); first | (go_simp; done) | (go_simp; with_reducible rfl))
  try simp only [Act.put, List.setIfInBounds_toArray, List.set_cons_zero, List.set_cons_succ]
  refine held_take 12 (v := ?_) rfl (by kernel_rfl) (by kernel_rfl) (by kernel_rfl) (fun _ _ _ h => h) (by assumption) ?_ ?_
  rotate_left
  · first | (refine Or.inr ⟨?_, ?_⟩ <;> rfl) | (refine Or.inl ⟨by rfl, ?_⟩; intro w hSw; (try dsimp only at hSw); first | (go_simp; done) | (go_simp; with_reducible rfl))
  try simp only [Act.put, List.setIfInBounds_toArray, List.set_cons_zero, List.set_cons_succ]
  refine held_take 13 (v := ?_) rfl (by kernel_rfl) (by kernel_rfl) (by kernel_rfl) (fun _ _ _ h => h) (by assumption) ?_ ?_
  rotate_left
  · first | (refine Or.inr ⟨?_, ?_⟩ <;> rfl) | (refine Or.inl ⟨by rfl, ?_⟩; intro w hSw; (try dsimp only at hSw); first | (go_simp; done) | (go_simp; with_reducible rfl))
  try simp only [Act.put, List.setIfInBounds_toArray, List.set_cons_zero, List.set_cons_succ]
  refine held_call 9 rfl (by kernel_rfl) (fun K hK => ?_)
  go_simp
  with_reducible refine (times_any _ _ _ _ _ _ (by have := digs64 HLEN.out.2.1.1; omega) (by have := digs64 HLEN.out.2.2.1; omega) _ (HA.out.keep (Below.refl _ _).drew (Nat.le_refl _)) (HB.out.keep (Below.refl _ _).drew (Nat.le_refl _))).mono ?_
  rintro e w5 ⟨_, rfl, ⟨a5, c5, rfl, hs5⟩, hf5, hbk⟩
  have hb5 := hbk
  refine hK.out _ _ ?_ (fun hHeld => ?_)
  · first | exact hHeld | exact ⟨cell_keep' hHeld.1 hbk, cell_keep' hHeld.2.1 hbk, cell_keep' hHeld.2.2.1 hbk, cell_keep' hHeld.2.2.2.1 hbk, cell_keep' hHeld.2.2.2.2.1 hbk, cell_keep' hHeld.2.2.2.2.2.1 hbk, hHeld.2.2.2.2.2.2.1.keep hbk (Nat.le_refl _), hHeld.2.2.2.2.2.2.2.1.keep hbk (Nat.le_refl _), bstep hHeld.2.2.2.2.2.2.2.2.1 hbk (Nat.le_refl _), hHeld.2.2.2.2.2.2.2.2.2.imp fun _ => Exists.imp fun _ h => h.keep hbk (Nat.le_refl _)⟩
  clear hK K
  try simp only [Act.put, List.setIfInBounds_toArray, List.set_cons_zero, List.set_cons_succ]
  refine held_call 14 rfl (by kernel_rfl) (fun K hK => ?_)
  go_simp
  with_reducible refine (times_any _ _ _ _ _ _ (by have := digs64 HLEN.out.2.1.2; omega) (by have := digs64 HLEN.out.2.2.2; omega) _ (HD.out.keep (bstep (Below.refl _ _).drew hb5 (Nat.le_refl _)) (Nat.le_refl _)) (HE.out.keep (bstep (Below.refl _ _).drew hb5 (Nat.le_refl _)) (Nat.le_refl _))).mono ?_
  rintro e w6 ⟨_, rfl, ⟨a6, c6, rfl, hs6⟩, hf6, hbk⟩
  have hb6 := hbk
  refine hK.out _ _ ?_ (fun hHeld => ?_)
  · first | exact hHeld | exact ⟨cell_keep' hHeld.1 hbk, cell_keep' hHeld.2.1 hbk, cell_keep' hHeld.2.2.1 hbk, cell_keep' hHeld.2.2.2.1 hbk, cell_keep' hHeld.2.2.2.2.1 hbk, cell_keep' hHeld.2.2.2.2.2.1 hbk, hHeld.2.2.2.2.2.2.1.keep hbk (Nat.le_refl _), hHeld.2.2.2.2.2.2.2.1.keep hbk (Nat.le_refl _), bstep hHeld.2.2.2.2.2.2.2.2.1 hbk (Nat.le_refl _), hHeld.2.2.2.2.2.2.2.2.2.imp fun _ => Exists.imp fun _ h => h.keep hbk (Nat.le_refl _)⟩
  clear hK K
  try simp only [Act.put, List.setIfInBounds_toArray, List.set_cons_zero, List.set_cons_succ]
  refine held_take 15 (v := ?_) rfl (by kernel_rfl) (by kernel_rfl) (by kernel_rfl) (fun _ _ _ h => h) (by assumption) ?_ ?_
  rotate_left
  · first | (refine Or.inr ⟨?_, ?_⟩ <;> rfl) | (refine Or.inl ⟨by rfl, ?_⟩; intro w hSw; (try dsimp only at hSw); first | (go_simp; done) | (go_simp; with_reducible rfl))
  try simp only [Act.put, List.setIfInBounds_toArray, List.set_cons_zero, List.set_cons_succ]
  refine held_call 16 rfl (by kernel_rfl) (fun K hK => ?_)
  go_simp
  rw [HSG.out]
  with_reducible refine (lowest_any _ _ _ HLEN.out.1 (Nat.le_trans (len_mul (digs64 HLEN.out.2.1.1) (digs64 HLEN.out.2.2.1)) (by decide)) (Nat.le_trans (len_mul (digs64 HLEN.out.2.1.2) (digs64 HLEN.out.2.2.2)) (by decide)) _ _ _ _ _ (hs5.keep hb6 (Nat.le_refl _)) hs6).mono ?_
  rw [HV.out]
  rintro e w7 ⟨rfl, hbk⟩
  refine hK.out _ _ ?_ (fun hHeld => ?_)
  · first | exact hHeld | exact ⟨cell_keep' hHeld.1 hbk, cell_keep' hHeld.2.1 hbk, cell_keep' hHeld.2.2.1 hbk, cell_keep' hHeld.2.2.2.1 hbk, cell_keep' hHeld.2.2.2.2.1 hbk, cell_keep' hHeld.2.2.2.2.2.1 hbk, hHeld.2.2.2.2.2.2.1.keep hbk (Nat.le_refl _), hHeld.2.2.2.2.2.2.2.1.keep hbk (Nat.le_refl _), bstep hHeld.2.2.2.2.2.2.2.2.1 hbk (Nat.le_refl _), hHeld.2.2.2.2.2.2.2.2.2.imp fun _ => Exists.imp fun _ h => h.keep hbk (Nat.le_refl _)⟩
  clear hK K
  try simp only [Act.put, List.setIfInBounds_toArray, List.set_cons_zero, List.set_cons_succ]
  refine held_take 17 (v := ?_) rfl (by kernel_rfl) (by kernel_rfl) (by kernel_rfl) (fun _ _ _ h => h) (by assumption) ?_ ?_
  rotate_left
  · first | (refine Or.inr ⟨?_, ?_⟩ <;> rfl) | (refine Or.inl ⟨by rfl, ?_⟩; intro w hSw; (try dsimp only at hSw); first | (go_simp; done) | (go_simp; with_reducible rfl))
  try simp only [Act.put, List.setIfInBounds_toArray, List.set_cons_zero, List.set_cons_succ]
  refine held_take 18 (v := ?_) rfl (by kernel_rfl) (by kernel_rfl) (by kernel_rfl) (fun _ _ _ h => h) (by assumption) ?_ ?_
  rotate_left
  · first | (refine Or.inr ⟨?_, ?_⟩ <;> rfl) | (refine Or.inl ⟨by rfl, ?_⟩; intro w hSw; (try dsimp only at hSw); first | (go_simp; done) | (go_simp; with_reducible rfl))
  try simp only [Act.put, List.setIfInBounds_toArray, List.set_cons_zero, List.set_cons_succ]
  refine held_call 19 rfl (by kernel_rfl) (fun K hK => ?_)
  obtain ⟨q0, q1, hq⟩ := hHeld.2.2.2.2.2.2.2.2.2
  obtain ⟨z0, z1, z2, z3⟩ := hq.two
  have HQ := Lib.hid (blk2_set hq (.int .i64 X) (.int .i64 Y))
  have HBW2 := Lib.hid (below_set2 hHeld.2.2.2.2.2.2.2.2.1 (Nat.le_add_right w.heap.size 2) (.int .i64 X) (.int .i64 Y))
  have HT := Lib.hid (blk2_other hHeld.2.2.2.2.2.2.1 (Nat.ne_of_lt HG6.out) (.int .i64 X) (.int .i64 Y))
  have HT2 := Lib.hid (blk2_other hHeld.2.2.2.2.2.2.2.1 (Nat.ne_of_lt HG7.out) (.int .i64 X) (.int .i64 Y))
  go_simp
  refine hK.out _ _ ?_ (fun hHeld2 => ?_)
  · exact ⟨HT.out.three.1, HT.out.three.2.1, HT.out.three.2.2.1, HT2.out.three.1, HT2.out.three.2.1, HT2.out.three.2.2.1, HT.out, HT2.out, HBW2.out, _, _, HQ.out⟩
  clear hK K hHeld z0 z1 z2 z3 hq
  try simp only [Act.put, List.setIfInBounds_toArray, List.set_cons_zero, List.set_cons_succ]
  refine held_call 20 rfl (by kernel_rfl) (fun K hK => ?_)
  go_simp
  refine hK.out _ _ hHeld2 (fun hHeld => ?_)
  clear hK K hHeld2
  try simp only [Act.put, List.setIfInBounds_toArray, List.set_cons_zero, List.set_cons_succ]
  refine wpAnyH_done (by kernel_rfl) ?_ _
  obtain ⟨z0, z1, z2, z3⟩ := HQ.out.two
  go_wp2_with fail
  exact bodyPost_ret (v := .tuple #[.agg #[.int .i64 X, .int .i64 Y], .int .i64 kk]) (by simp [results, Tryz.results86, go_sem, z0, z1]) rfl ⟨by rw [HV.out], HBW2.out⟩

set_option maxRecDepth 100000 in
set_option maxHeartbeats 2000000 in
theorem refdiv_bad (na da nb db : Int) (h1 : In64 na) (h2 : In64 da) (h3 : In64 nb) (h4 : In64 db) (hb : rightB na da = false ∨ rightB nb db = false) (w : World) :
    Calls Tryz.prog 87 #[.agg #[.int .i64 na, .int .i64 da], .agg #[.int .i64 nb, .int .i64 db]] w fun e w' => e = .returned (.tuple #[.agg #[.int .i64 0, .int .i64 0], .int .i64 1]) ∧ Below w.heap.size w w' := by
  have ca := refright_any na da h1 h2
  have cb := refright_any nb db h3 h4
  have hbx := box3 w #[.int .i64 na, .int .i64 da] #[.int .i64 nb, .int .i64 db] #[.int .i64 0, .int .i64 0] 23 23 23
  obtain ⟨ta, tb, tr, hsz, hbw⟩ := hbx
  have TA := Lib.hid ta
  have TB := Lib.hid tb
  have TR := Lib.hid tr
  have HBW := Lib.hid hbw
  have HSZ := Lib.hid hsz
  clear ta tb hsz hbw
  cases ha : rightB na da
  · rw [ha] at ca
    clear cb hb
    go_enter Tryz.func87, Tryz.ntmps87
    go_wp2_with fail
    with_reducible refine (ca _).mono ?_
    rintro e w1 ⟨rfl, hb1⟩
    replace HBW := Lib.hid (bstep HBW.out hb1 (Nat.le_refl _))
    obtain ⟨r0, r1, r2, r3⟩ := (TR.out.keep hb1 (Nat.le_refl _)).two
    clear ca hb1
    go_wp2_with fail
    exact bodyPost_ret (v := .tuple #[.agg #[.int .i64 0, .int .i64 0], .int .i64 1]) (by simp [results, Tryz.results87, go_sem, r0, r1]) rfl ⟨rfl, by first | exact HBW.out | exact below_set2 HBW.out (by omega) _ _⟩
  · have hb2 : rightB nb db = false := by rcases hb with h | h; · rw [ha] at h; cases h
                                          · exact h
    rw [ha] at ca
    rw [hb2] at cb
    clear hb
    go_enter Tryz.func87, Tryz.ntmps87
    go_wp2_with fail
    with_reducible refine (ca _).mono ?_
    rintro e w1 ⟨rfl, hb1⟩
    replace HBW := Lib.hid (bstep HBW.out hb1 (Nat.le_refl _))
    replace TB := Lib.hid (TB.out.keep hb1 (Nat.le_refl _))
    obtain ⟨x0, x1, _, _⟩ := TB.out.two
    replace TR := Lib.hid (TR.out.keep hb1 (Nat.le_refl _))
    clear ca hb1
    go_wp2_with fail
    with_reducible refine (cb _).mono ?_
    rintro e w2 ⟨rfl, hb1⟩
    replace HBW := Lib.hid (bstep HBW.out hb1 (Nat.le_refl _))
    obtain ⟨r0, r1, r2, r3⟩ := (TR.out.keep hb1 (Nat.le_refl _)).two
    clear cb hb1
    go_wp2_with fail
    exact bodyPost_ret (v := .tuple #[.agg #[.int .i64 0, .int .i64 0], .int .i64 1]) (by simp [results, Tryz.results87, go_sem, r0, r1]) rfl ⟨rfl, by first | exact HBW.out | exact below_set2 HBW.out (by omega) _ _⟩

set_option maxRecDepth 100000 in
set_option maxHeartbeats 4000000 in
theorem refdiv_ok (na da nb db : Int) (ha : RightP na da) (hb : RightP nb db) (hn0 : nb ≠ 0) (w : World) :
    Calls Tryz.prog 87 #[.agg #[.int .i64 na, .int .i64 da], .agg #[.int .i64 nb, .int .i64 db]] w fun e w' => e = .returned (refV (fracI (if nb < 0 then -(na * db) else na * db) (da.natAbs * nb.natAbs))) ∧ Below w.heap.size w w' := by
  obtain ⟨a1, a2, a3, a4, a5⟩ := ha
  obtain ⟨b1, b2, b3, b4, b5⟩ := hb
  have ra := (rightB_iff na da ⟨a3, a4⟩ ⟨by omega, by omega⟩).2 ⟨a1, a2, a3, a4, a5⟩
  have rb := (rightB_iff nb db ⟨b3, b4⟩ ⟨by omega, by omega⟩).2 ⟨b1, b2, b3, b4, b5⟩
  have ca := refright_any na da ⟨a3, a4⟩ ⟨by omega, by omega⟩
  have cb := refright_any nb db ⟨b3, b4⟩ ⟨by omega, by omega⟩
  rw [ra] at ca
  rw [rb] at cb
  have ofa := of_any na da ⟨a3, a4⟩ ⟨by omega, by omega⟩
  have ofb := of_any nb db ⟨b3, b4⟩ ⟨by omega, by omega⟩
  have k1 : na.natAbs < 18446744073709551616 := by omega
  have k2 : da.natAbs < 18446744073709551616 := by omega
  have k3 : nb.natAbs < 18446744073709551616 := by omega
  have k4 : db.natAbs < 18446744073709551616 := by omega
  have hDE : 0 < da.natAbs * nb.natAbs := Nat.mul_pos (by omega) (by omega)
  have hval : frac (decide (na < 0) != decide (nb < 0)) (na.natAbs * db.natAbs) (da.natAbs * nb.natAbs) = _ := frac_of_sgn (sgn_div2b na nb db (by omega)) hDE
  rw [← hval]
  clear hval
  obtain ⟨sg, hsg⟩ : ∃ sg, sg = (decide (na < 0) != decide (nb < 0)) := ⟨_, rfl⟩
  rw [← hsg]
  have HSG := Lib.hid (show (!(decide (na < 0) == decide (nb < 0))) = sg from hsg.symm)
  obtain ⟨X, Y, kk, hsh⟩ := refV_shape (frac sg (na.natAbs * db.natAbs) (da.natAbs * nb.natAbs))
  have HV := Lib.hid hsh
  have HLEN := Lib.hid (And.intro hDE (And.intro (And.intro k1 k2) (And.intro k3 k4)))
  clear hsg hsh hDE k1 k2 k3 k4
  have hz : (nb == 0) = false := by rw [beq_eq_false_iff_ne]; exact hn0
  clear hn0
  have hbx := box3 w #[.int .i64 na, .int .i64 da] #[.int .i64 nb, .int .i64 db] #[.int .i64 0, .int .i64 0] 23 23 23
  obtain ⟨ta, tb, tr, hsz, hbw⟩ := hbx
  have TA := Lib.hid ta
  have TB := Lib.hid tb
  have TR := Lib.hid tr
  have HBW := Lib.hid hbw
  clear ta tb tr hsz hbw
  clear a1 a2 a3 a4 a5 b1 b2 b3 b4 b5 ra rb
  go_enter Tryz.func87, Tryz.ntmps87
  go_wp2_with fail
  with_reducible refine (ca _).mono ?_
  rintro e w1 ⟨rfl, hb1⟩
  replace HBW := Lib.hid (bstep HBW.out hb1 (Nat.le_refl _))
  replace TA := Lib.hid (TA.out.keep hb1 (Nat.le_refl _))
  replace TB := Lib.hid (TB.out.keep hb1 (Nat.le_refl _))
  replace TR := Lib.hid (TR.out.keep hb1 (Nat.le_refl _))
  obtain ⟨x0, x1, _, _⟩ := TB.out.two
  clear ca hb1
  go_wp2_with fail
  with_reducible refine (cb _).mono ?_
  rintro e w2 ⟨rfl, hb1⟩
  replace HBW := Lib.hid (bstep HBW.out hb1 (Nat.le_refl _))
  replace TA := Lib.hid (TA.out.keep hb1 (Nat.le_refl _))
  replace TB := Lib.hid (TB.out.keep hb1 (Nat.le_refl _))
  replace TR := Lib.hid (TR.out.keep hb1 (Nat.le_refl _))
  clear x0 x1 cb hb1
  obtain ⟨x0, x1, _, _⟩ := TA.out.two
  obtain ⟨y0, y1, _, _⟩ := TB.out.two
  go_wp2_with fail
  with_reducible refine (ofa _).mono ?_
  rintro e w3 ⟨_, rfl, ⟨_, _, rfl, ⟨aa, cA, rfl, hsa⟩, ⟨ad, cD, rfl, hsd⟩⟩, hb1⟩
  replace HBW := Lib.hid (bstep HBW.out hb1 (Nat.le_refl _))
  replace TB := Lib.hid (TB.out.keep hb1 (Nat.le_refl _))
  replace TR := Lib.hid (TR.out.keep hb1 (Nat.le_refl _))
  clear ofa hb1 x0 x1 y0 y1
  obtain ⟨t6, hsz6, hb6⟩ := box1 w3 #[.bool (decide (na < 0)), .slice aa (digs na.natAbs).length cA, .slice ad (digs da.natAbs).length cD] 60
  have T6 := Lib.hid t6
  have HG6 := Lib.hid (show w.heap.size + 1 + 1 < w3.heap.size from TR.out.lt)
  replace HBW := Lib.hid (bstep HBW.out hb6 (Nat.le_refl _))
  replace TB := Lib.hid (TB.out.keep hb6 (Nat.le_refl _))
  replace TR := Lib.hid (TR.out.keep hb6 (Nat.le_refl _))
  have HA := Lib.hid (hsa.keep hb6 (Nat.le_refl _))
  have HD := Lib.hid (hsd.keep hb6 (Nat.le_refl _))
  clear t6 hsz6 hb6 hsa hsd
  obtain ⟨y0, y1, _, _⟩ := TB.out.two
  go_wp2_with fail
  with_reducible refine (ofb _).mono ?_
  rintro e w4 ⟨_, rfl, ⟨_, _, rfl, ⟨ab, cB, rfl, hsb⟩, ⟨ae, cE, rfl, hse⟩⟩, hb1⟩
  replace HBW := Lib.hid (bstep HBW.out hb1 (Nat.le_refl _))
  replace TR := Lib.hid (TR.out.keep hb1 (Nat.le_refl _))
  replace T6 := Lib.hid (T6.out.keep hb1 (Nat.le_refl _))
  replace HA := Lib.hid (HA.out.keep hb1 (Nat.le_refl _))
  replace HD := Lib.hid (HD.out.keep hb1 (Nat.le_refl _))
  clear ofb hb1 y0 y1 TB TA
  obtain ⟨t7, hsz7, hb7⟩ := box1 w4 #[.bool (decide (nb < 0)), .slice ab (digs nb.natAbs).length cB, .slice ae (digs db.natAbs).length cE] 60
  have T7 := Lib.hid t7
  have HG7 := Lib.hid (show w.heap.size + 1 + 1 < w4.heap.size from TR.out.lt)
  replace HBW := Lib.hid (bstep HBW.out hb7 (Nat.le_refl _))
  replace TR := Lib.hid (TR.out.keep hb7 (Nat.le_refl _))
  replace T6 := Lib.hid (T6.out.keep hb7 (Nat.le_refl _))
  replace HA := Lib.hid (HA.out.keep hb7 (Nat.le_refl _))
  replace HD := Lib.hid (HD.out.keep hb7 (Nat.le_refl _))
  have HB := Lib.hid (hsb.keep hb7 (Nat.le_refl _))
  have HE := Lib.hid (hse.keep hb7 (Nat.le_refl _))
  clear t7 hsz7 hb7 hsb hse
  go_wp2_with fail
  generalize w4.alloc (.cells #[.bool (decide (nb < 0)), .slice ab (digs nb.natAbs).length cB, .slice ae (digs db.natAbs).length cE] 60) = W at *
  generalize w3.heap.size = g6 at *
  generalize w4.heap.size = g7 at *
  obtain ⟨x0, x1, x2, _, _, _⟩ := T6.out.three
  obtain ⟨y0, y1, y2, _, _, _⟩ := T7.out.three
  refine wp_region_held_drew (S := (fun (w' : World) => w'.cell? ⟨g6, 0, none⟩ = some (.bool (decide (na < 0))) ∧ w'.cell? ⟨g6, 1, none⟩ = some (.slice aa (digs na.natAbs).length cA) ∧ w'.cell? ⟨g6, 2, none⟩ = some (.slice ad (digs da.natAbs).length cD) ∧ w'.cell? ⟨g7, 0, none⟩ = some (.bool (decide (nb < 0))) ∧ w'.cell? ⟨g7, 1, none⟩ = some (.slice ab (digs nb.natAbs).length cB) ∧ w'.cell? ⟨g7, 2, none⟩ = some (.slice ae (digs db.natAbs).length cE) ∧ Blk w' g6 #[.bool (decide (na < 0)), .slice aa (digs na.natAbs).length cA, .slice ad (digs da.natAbs).length cD] ∧ Blk w' g7 #[.bool (decide (nb < 0)), .slice ab (digs nb.natAbs).length cB, .slice ae (digs db.natAbs).length cE] ∧ Below w.heap.size w w' ∧ ∃ x y, Blk w' (w.heap.size + 1 + 1) #[x, y])) (by kernel_rfl) ⟨x0, x1, x2, y0, y1, y2, T6.out.keep (Below.refl _ _).drew (Nat.le_refl _), T7.out.keep (Below.refl _ _).drew (Nat.le_refl _), HBW.out.drew, _, _, TR.out.keep (Below.refl _ _).drew (Nat.le_refl _)⟩ (fun hHeld => ?_)
  refine held_take 0 (v := ?_) rfl (by kernel_rfl) (by kernel_rfl) (by kernel_rfl) (fun _ _ _ h => h) (by assumption) ?_ ?_
  rotate_left
  · first | (refine Or.inr ⟨?_, ?_⟩ <;> rfl) | (refine Or.inl ⟨by rfl, ?_⟩; intro w hSw; (try dsimp only at hSw); first | (go_simp; done) | (go_simp; with_reducible rfl))
  try simp only [Act.put, List.setIfInBounds_toArray, List.set_cons_zero, List.set_cons_succ]
  refine held_take 1 (v := ?_) rfl (by kernel_rfl) (by kernel_rfl) (by kernel_rfl) (fun _ _ _ h => h) (by assumption) ?_ ?_
  rotate_left
  · first | (refine Or.inr ⟨?_, ?_⟩ <;> rfl) | (refine Or.inl ⟨by rfl, ?_⟩; intro w hSw; (try dsimp only at hSw); first | (go_simp; done) | (go_simp; with_reducible rfl))
  try simp only [Act.put, List.setIfInBounds_toArray, List.set_cons_zero, List.set_cons_succ]
  refine held_take 2 (v := ?_) rfl (by kernel_rfl) (by kernel_rfl) (by kernel_rfl) (fun _ _ _ h => h) (by assumption) ?_ ?_
  rotate_left
  · first | (refine Or.inr ⟨?_, ?_⟩ <;> rfl) | (refine Or.inl ⟨by rfl, ?_⟩; intro w hSw; (try dsimp only at hSw); first | (go_simp; done) | (go_simp; with_reducible rfl))
  try simp only [Act.put, List.setIfInBounds_toArray, List.set_cons_zero, List.set_cons_succ]
  refine held_take 3 (v := ?_) rfl (by kernel_rfl) (by kernel_rfl) (by kernel_rfl) (fun _ _ _ h => h) (by assumption) ?_ ?_
  rotate_left
  · first | (refine Or.inr ⟨?_, ?_⟩ <;> rfl) | (refine Or.inl ⟨by rfl, ?_⟩; intro w hSw; (try dsimp only at hSw); first | (go_simp; done) | (go_simp; with_reducible rfl))
  try simp only [Act.put, List.setIfInBounds_toArray, List.set_cons_zero, List.set_cons_succ]
  refine held_take 4 (v := ?_) rfl (by kernel_rfl) (by kernel_rfl) (by kernel_rfl) (fun _ _ _ h => h) (by assumption) ?_ ?_
  rotate_left
  · first | (refine Or.inr ⟨?_, ?_⟩ <;> rfl) | (refine Or.inl ⟨by rfl, ?_⟩; intro w hSw; (try dsimp only at hSw); first | (go_simp; done) | (go_simp; with_reducible rfl))
  try simp only [Act.put, List.setIfInBounds_toArray, List.set_cons_zero, List.set_cons_succ]
  refine held_take 5 (v := ?_) rfl (by kernel_rfl) (by kernel_rfl) (by kernel_rfl) (fun _ _ _ h => h) (by assumption) ?_ ?_
  rotate_left
  · first | (refine Or.inr ⟨?_, ?_⟩ <;> rfl) | (refine Or.inl ⟨by rfl, ?_⟩; intro w hSw; (try dsimp only at hSw); first | (go_simp; done) | (go_simp; with_reducible rfl))
  try simp only [Act.put, List.setIfInBounds_toArray, List.set_cons_zero, List.set_cons_succ]
  refine held_take 6 (v := ?_) rfl (by kernel_rfl) (by kernel_rfl) (by kernel_rfl) (fun _ _ _ h => h) (by assumption) ?_ ?_
  rotate_left
  · first | (refine Or.inr ⟨?_, ?_⟩ <;> rfl) | (refine Or.inl ⟨by rfl, ?_⟩; intro w hSw; (try dsimp only at hSw); first | (go_simp; done) | (go_simp; with_reducible rfl))
  try simp only [Act.put, List.setIfInBounds_toArray, List.set_cons_zero, List.set_cons_succ]
  refine held_take 7 (v := ?_) rfl (by kernel_rfl) (by kernel_rfl) (by kernel_rfl) (fun _ _ _ h => h) (by assumption) ?_ ?_
  rotate_left
  · first | (refine Or.inr ⟨?_, ?_⟩ <;> rfl) | (refine Or.inl ⟨by rfl, ?_⟩; intro w hSw; (try dsimp only at hSw); first | (go_simp; done) | (go_simp; with_reducible rfl))
  try simp only [Act.put, List.setIfInBounds_toArray, List.set_cons_zero, List.set_cons_succ]
  refine held_take 8 (v := ?_) rfl (by kernel_rfl) (by kernel_rfl) (by kernel_rfl) (fun _ _ _ h => h) (by assumption) ?_ ?_
  rotate_left
  · first | (refine Or.inr ⟨?_, ?_⟩ <;> rfl) | (refine Or.inl ⟨by rfl, ?_⟩; intro w hSw; (try dsimp only at hSw); first | (go_simp; done) | (go_simp; with_reducible rfl))
  try simp only [Act.put, List.setIfInBounds_toArray, List.set_cons_zero, List.set_cons_succ]
  refine held_take 10 (v := ?_) rfl (by kernel_rfl) (by kernel_rfl) (by kernel_rfl) (fun _ _ _ h => h) (by assumption) ?_ ?_
  rotate_left
  · first | (refine Or.inr ⟨?_, ?_⟩ <;> rfl) | (refine Or.inl ⟨by rfl, ?_⟩; intro w hSw; (try dsimp only at hSw); first | (go_simp; done) | (go_simp; with_reducible rfl))
  try simp only [Act.put, List.setIfInBounds_toArray, List.set_cons_zero, List.set_cons_succ]
  refine held_take 11 (v := ?_) rfl (by kernel_rfl) (by kernel_rfl) (by kernel_rfl) (fun _ _ _ h => h) (by assumption) ?_ ?_
  rotate_left
  · first | (refine Or.inr ⟨?_, ?_⟩ <;> rfl) | (refine Or.inl ⟨by rfl, ?_⟩; intro w hSw; (try dsimp only at hSw); first | (go_simp; done) | (go_simp; with_reducible rfl))
  try simp only [Act.put, List.setIfInBounds_toArray, List.set_cons_zero, List.set_cons_succ]
  refine held_take 12 (v := ?_) rfl (by kernel_rfl) (by kernel_rfl) (by kernel_rfl) (fun _ _ _ h => h) (by assumption) ?_ ?_
  rotate_left
  · first | (refine Or.inr ⟨?_, ?_⟩ <;> rfl) | (refine Or.inl ⟨by rfl, ?_⟩; intro w hSw; (try dsimp only at hSw); first | (go_simp; done) | (go_simp; with_reducible rfl))
  try simp only [Act.put, List.setIfInBounds_toArray, List.set_cons_zero, List.set_cons_succ]
  refine held_take 13 (v := ?_) rfl (by kernel_rfl) (by kernel_rfl) (by kernel_rfl) (fun _ _ _ h => h) (by assumption) ?_ ?_
  rotate_left
  · first | (refine Or.inr ⟨?_, ?_⟩ <;> rfl) | (refine Or.inl ⟨by rfl, ?_⟩; intro w hSw; (try dsimp only at hSw); first | (go_simp; done) | (go_simp; with_reducible rfl))
  try simp only [Act.put, List.setIfInBounds_toArray, List.set_cons_zero, List.set_cons_succ]
  refine held_call 9 rfl (by kernel_rfl) (fun K hK => ?_)
  go_simp
  with_reducible refine (times_any _ _ _ _ _ _ (by have := digs64 HLEN.out.2.1.1; omega) (by have := digs64 HLEN.out.2.2.2; omega) _ (HA.out.keep (Below.refl _ _).drew (Nat.le_refl _)) (HE.out.keep (Below.refl _ _).drew (Nat.le_refl _))).mono ?_
  rintro e w5 ⟨_, rfl, ⟨a5, c5, rfl, hs5⟩, hf5, hbk⟩
  have hb5 := hbk
  refine hK.out _ _ ?_ (fun hHeld => ?_)
  · first | exact hHeld | exact ⟨cell_keep' hHeld.1 hbk, cell_keep' hHeld.2.1 hbk, cell_keep' hHeld.2.2.1 hbk, cell_keep' hHeld.2.2.2.1 hbk, cell_keep' hHeld.2.2.2.2.1 hbk, cell_keep' hHeld.2.2.2.2.2.1 hbk, hHeld.2.2.2.2.2.2.1.keep hbk (Nat.le_refl _), hHeld.2.2.2.2.2.2.2.1.keep hbk (Nat.le_refl _), bstep hHeld.2.2.2.2.2.2.2.2.1 hbk (Nat.le_refl _), hHeld.2.2.2.2.2.2.2.2.2.imp fun _ => Exists.imp fun _ h => h.keep hbk (Nat.le_refl _)⟩
  clear hK K
  try simp only [Act.put, List.setIfInBounds_toArray, List.set_cons_zero, List.set_cons_succ]
  refine held_call 14 rfl (by kernel_rfl) (fun K hK => ?_)
  go_simp
  with_reducible refine (times_any _ _ _ _ _ _ (by have := digs64 HLEN.out.2.1.2; omega) (by have := digs64 HLEN.out.2.2.1; omega) _ (HD.out.keep (bstep (Below.refl _ _).drew hb5 (Nat.le_refl _)) (Nat.le_refl _)) (HB.out.keep (bstep (Below.refl _ _).drew hb5 (Nat.le_refl _)) (Nat.le_refl _))).mono ?_
  rintro e w6 ⟨_, rfl, ⟨a6, c6, rfl, hs6⟩, hf6, hbk⟩
  have hb6 := hbk
  refine hK.out _ _ ?_ (fun hHeld => ?_)
  · first | exact hHeld | exact ⟨cell_keep' hHeld.1 hbk, cell_keep' hHeld.2.1 hbk, cell_keep' hHeld.2.2.1 hbk, cell_keep' hHeld.2.2.2.1 hbk, cell_keep' hHeld.2.2.2.2.1 hbk, cell_keep' hHeld.2.2.2.2.2.1 hbk, hHeld.2.2.2.2.2.2.1.keep hbk (Nat.le_refl _), hHeld.2.2.2.2.2.2.2.1.keep hbk (Nat.le_refl _), bstep hHeld.2.2.2.2.2.2.2.2.1 hbk (Nat.le_refl _), hHeld.2.2.2.2.2.2.2.2.2.imp fun _ => Exists.imp fun _ h => h.keep hbk (Nat.le_refl _)⟩
  clear hK K
  try simp only [Act.put, List.setIfInBounds_toArray, List.set_cons_zero, List.set_cons_succ]
  refine held_take 15 (v := ?_) rfl (by kernel_rfl) (by kernel_rfl) (by kernel_rfl) (fun _ _ _ h => h) (by assumption) ?_ ?_
  rotate_left
  · first | (refine Or.inr ⟨?_, ?_⟩ <;> rfl) | (refine Or.inl ⟨by rfl, ?_⟩; intro w hSw; (try dsimp only at hSw); first | (go_simp; done) | (go_simp; with_reducible rfl))
  try simp only [Act.put, List.setIfInBounds_toArray, List.set_cons_zero, List.set_cons_succ]
  refine held_call 16 rfl (by kernel_rfl) (fun K hK => ?_)
  go_simp
  rw [HSG.out]
  with_reducible refine (lowest_any _ _ _ HLEN.out.1 (Nat.le_trans (len_mul (digs64 HLEN.out.2.1.1) (digs64 HLEN.out.2.2.2)) (by decide)) (Nat.le_trans (len_mul (digs64 HLEN.out.2.1.2) (digs64 HLEN.out.2.2.1)) (by decide)) _ _ _ _ _ (hs5.keep hb6 (Nat.le_refl _)) hs6).mono ?_
  rw [HV.out]
  rintro e w7 ⟨rfl, hbk⟩
  refine hK.out _ _ ?_ (fun hHeld => ?_)
  · first | exact hHeld | exact ⟨cell_keep' hHeld.1 hbk, cell_keep' hHeld.2.1 hbk, cell_keep' hHeld.2.2.1 hbk, cell_keep' hHeld.2.2.2.1 hbk, cell_keep' hHeld.2.2.2.2.1 hbk, cell_keep' hHeld.2.2.2.2.2.1 hbk, hHeld.2.2.2.2.2.2.1.keep hbk (Nat.le_refl _), hHeld.2.2.2.2.2.2.2.1.keep hbk (Nat.le_refl _), bstep hHeld.2.2.2.2.2.2.2.2.1 hbk (Nat.le_refl _), hHeld.2.2.2.2.2.2.2.2.2.imp fun _ => Exists.imp fun _ h => h.keep hbk (Nat.le_refl _)⟩
  clear hK K
  try simp only [Act.put, List.setIfInBounds_toArray, List.set_cons_zero, List.set_cons_succ]
  refine held_take 17 (v := ?_) rfl (by kernel_rfl) (by kernel_rfl) (by kernel_rfl) (fun _ _ _ h => h) (by assumption) ?_ ?_
  rotate_left
  · first | (refine Or.inr ⟨?_, ?_⟩ <;> rfl) | (refine Or.inl ⟨by rfl, ?_⟩; intro w hSw; (try dsimp only at hSw); first | (go_simp; done) | (go_simp; with_reducible rfl))
  try simp only [Act.put, List.setIfInBounds_toArray, List.set_cons_zero, List.set_cons_succ]
  refine held_take 18 (v := ?_) rfl (by kernel_rfl) (by kernel_rfl) (by kernel_rfl) (fun _ _ _ h => h) (by assumption) ?_ ?_
  rotate_left
  · first | (refine Or.inr ⟨?_, ?_⟩ <;> rfl) | (refine Or.inl ⟨by rfl, ?_⟩; intro w hSw; (try dsimp only at hSw); first | (go_simp; done) | (go_simp; with_reducible rfl))
  try simp only [Act.put, List.setIfInBounds_toArray, List.set_cons_zero, List.set_cons_succ]
  refine held_call 19 rfl (by kernel_rfl) (fun K hK => ?_)
  obtain ⟨q0, q1, hq⟩ := hHeld.2.2.2.2.2.2.2.2.2
  obtain ⟨z0, z1, z2, z3⟩ := hq.two
  have HQ := Lib.hid (blk2_set hq (.int .i64 X) (.int .i64 Y))
  have HBW2 := Lib.hid (below_set2 hHeld.2.2.2.2.2.2.2.2.1 (Nat.le_add_right w.heap.size 2) (.int .i64 X) (.int .i64 Y))
  have HT := Lib.hid (blk2_other hHeld.2.2.2.2.2.2.1 (Nat.ne_of_lt HG6.out) (.int .i64 X) (.int .i64 Y))
  have HT2 := Lib.hid (blk2_other hHeld.2.2.2.2.2.2.2.1 (Nat.ne_of_lt HG7.out) (.int .i64 X) (.int .i64 Y))
  go_simp
  refine hK.out _ _ ?_ (fun hHeld2 => ?_)
  · exact ⟨HT.out.three.1, HT.out.three.2.1, HT.out.three.2.2.1, HT2.out.three.1, HT2.out.three.2.1, HT2.out.three.2.2.1, HT.out, HT2.out, HBW2.out, _, _, HQ.out⟩
  clear hK K hHeld z0 z1 z2 z3 hq
  try simp only [Act.put, List.setIfInBounds_toArray, List.set_cons_zero, List.set_cons_succ]
  refine held_call 20 rfl (by kernel_rfl) (fun K hK => ?_)
  go_simp
  refine hK.out _ _ hHeld2 (fun hHeld => ?_)
  clear hK K hHeld2
  try simp only [Act.put, List.setIfInBounds_toArray, List.set_cons_zero, List.set_cons_succ]
  refine wpAnyH_done (by kernel_rfl) ?_ _
  obtain ⟨z0, z1, z2, z3⟩ := HQ.out.two
  go_wp2_with fail
  exact bodyPost_ret (v := .tuple #[.agg #[.int .i64 X, .int .i64 Y], .int .i64 kk]) (by simp [results, Tryz.results87, go_sem, z0, z1]) rfl ⟨by rw [HV.out], HBW2.out⟩

end Go.Proofs.YtajebceanonalaaGreatDoor
