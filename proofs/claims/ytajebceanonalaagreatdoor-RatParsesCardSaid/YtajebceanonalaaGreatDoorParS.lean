/-
  rat's small: contract.
-/
import Derived.Test.YtajebceanonalaaGreatDoorParL
import Derived.Test.YtajebceanonalaaGreatDoorRatK
import Derived.Test.YtajebceanonalaaGreatDoorIsErr
import Derived.Test.YtajebceanonalaaGreatDoorRefO
namespace Go.Proofs.YtajebceanonalaaGreatDoor
set_option linter.unusedVariables false
open Go.RowKit

set_option maxRecDepth 100000 in
theorem is_nilE (n : Int) (w : World) :
    Calls Tryz.prog 64 #[.nilIface, .iface 36 (.int .i64 n)] w fun e w' => e = .returned (.bool false) ∧ w' = w := by
  have he : ∀ w : World, (binOp .eql 25 .nilIface (.iface 36 (.int .i64 n))).run Tryz.prog w = .ok (.bool false) w := fun w => by kernel_rfl
  go_enter Tryz.func64, Tryz.ntmps64
  go_wp2_with fail
  go_ret
  exact ⟨rfl, rfl⟩
theorem div_step {neg : Bool} {v j : Nat} {x y : Int} (h : frac neg v (10 ^ j) = some (x, y)) (w : World) :
    Calls Tryz.prog 46 #[.agg #[.int .i64 x, .int .i64 y], .agg #[.int .i64 10, .int .i64 1]] w fun e w' => e = .returned (ratV (frac neg v (10 ^ (j + 1)))) ∧ Below w.heap.size w w' := by
  have hr := frac_right (p10 j) h
  obtain ⟨r1, r2, r3, r4, r5⟩ := hr
  have hx : In64 x := ⟨r3, r4⟩
  have hy : In64 y := ⟨by omega, r2⟩
  have ha : rightB x y = true := (rightB_iff x y hx hy).2 ⟨r1, r2, r3, r4, r5⟩
  have hb : rightB 10 1 = true := by decide
  have hd := div_any x y 10 1 hx hy (by unfold In64; omega) (by unfold In64; omega) w
  have hs := frac_step (p10 j) h
  rw [Nat.pow_succ, ← hs]
  unfold divV at hd
  rw [ha, hb] at hd
  simpa using hd
theorem frac_zero10 {neg : Bool} {v : Nat} (h : v ≤ 1000000000000000000) : frac neg v (10 ^ 0) = some (sgn neg v, 1) := by
  rw [Nat.pow_zero, frac_one]
  unfold fitE
  by_cases h0 : v = 0
  · subst h0; rw [if_pos rfl]; cases neg <;> rfl
  · rw [if_neg h0, if_neg (by omega)]; rfl
theorem dec_le18 {v : Nat} (h : (Lib.decDigits v).length ≤ 18) : v < 1000000000000000000 := by
  obtain ⟨k, h1, h2, h3⟩ := dec_len v
  rw [h1, padD_len] at h
  exact Nat.lt_of_lt_of_le h2 (Nat.pow_le_pow_right (by decide) h)

set_option maxRecDepth 100000 in
set_option maxHeartbeats 4000000 in
theorem small_any (neg : Bool) (v back : Nat) (hv : 0 < v) (hz : v % 10 ≠ 0) (hlen : (Lib.decDigits v).length ≤ 200) (hback : back ≤ 100000) (w : World) :
    Calls Tryz.prog 22 #[.bool neg, .string ⟨(Lib.decDigits v).toArray⟩, .int .i64 back] w fun e w' => e = .returned (ratV (frac neg v (10 ^ back))) ∧ Below w.heap.size w w' := by
  obtain ⟨F, hF⟩ : ∃ F, F = frac neg v (10 ^ back) := ⟨_, rfl⟩
  rw [← hF]
  have HF := Lib.hid hF
  clear hF
  obtain ⟨tr, hsz, hbw⟩ := box1 w #[.int .i64 0, .int .i64 0] 23
  have TR := Lib.hid tr
  have HBW := Lib.hid hbw
  clear tr hbw
  have hvn : Lib.decDigits v ≠ [] := by intro h; have h3 := dec_valL v; rw [h] at h3; simp [valL, valS] at h3; omega
  have hdv := dec_valL v
  have hdd := dec_digL v
  by_cases hb62 : (62 : Int) < back
  · have HN := Lib.hid (show F = none by rw [HF.out]; exact frac_over_den hz (by omega))
    clear hdv hvn hdd
    go_enter Tryz.func22, Tryz.ntmps22
    go_wp2_with fail
    generalize w.alloc (.cells #[.int .i64 0, .int .i64 0] 23) = W at *
    obtain ⟨r0, r1, r2, r3⟩ := TR.out.two
    exact bodyPost_ret (v := .tuple #[.agg #[.int .i64 0, .int .i64 0], errV 9]) (by simp [results, Tryz.results22, go_sem, r0, r1, errV]) rfl ⟨by rw [HN.out]; rfl, HBW.out⟩
  by_cases h18 : (18 : Int) < (Lib.decDigits v).length
  · have cl := long_any neg v back hv (by omega) hlen
    rw [← HF.out] at cl
    clear hdv hvn hdd HF
    generalize Lib.decDigits v = L at *
    go_enter Tryz.func22, Tryz.ntmps22
    go_wp2_with fail
    generalize w.alloc (.cells #[.int .i64 0, .int .i64 0] 23) = W at *
    go_wp2_with fail
    with_reducible refine (cl _).mono ?_
    rintro e w2 ⟨rfl, hb2⟩
    clear cl
    have TR2 := Lib.hid (TR.out.keep hb2 (Nat.le_refl _))
    have HB2 := Lib.hid (show Below w.heap.size w w2 from bstep HBW.out hb2 (by omega))
    clear hb2
    obtain ⟨r0, r1, r2, r3⟩ := TR2.out.two
    rcases F with _ | ⟨x, y⟩
    · simp only [ratV, errV]
      go_wp2_with fail
      exact bodyPost_ret (v := .tuple #[.agg #[.int .i64 0, .int .i64 0], errV 9]) (by simp [results, Tryz.results22, go_sem, r0, r1, errV]) rfl ⟨rfl, (HB2.out.setCell (by simp) _).setCell (by simp) _⟩
    · simp only [ratV]
      go_wp2_with fail
      exact bodyPost_ret (v := .tuple #[.agg #[.int .i64 x, .int .i64 y], .nilIface]) (by simp [results, Tryz.results22, go_sem, r0, r1]) rfl ⟨rfl, (HB2.out.setCell (by simp) _).setCell (by simp) _⟩
  have hvlt : v < 1000000000000000000 := dec_le18 (by omega)
  have cp := Tryz.strconv_ParseInt_10_at64_ok ⟨(Lib.decDigits v).toArray⟩ (by show (Lib.decDigits v).length ≤ _; omega) (v : Int) (by
    show Lib.parseIntB 64 (Lib.decDigits v) = _
    have := pi_ok hdd hvn (by rw [hdv]; omega)
    rwa [hdv] at this)
  clear hdv hvn hdd
  generalize Lib.decDigits v = L at *
  go_enter Tryz.func22, Tryz.ntmps22
  go_wp2_with fail
  generalize w.alloc (.cells #[.int .i64 0, .int .i64 0] 23) = W at *
  go_wp2_with fail
  with_reducible refine (cp _).mono ?_
  rintro e w1 ⟨rfl, hb1⟩
  clear cp
  replace hb1 : Below W.heap.size W w1 := by
    rcases hb1 with rfl | ⟨t, rfl⟩
    · exact Below.refl _ _
    · exact Joins.below_bytesWorld _ _ _ _ (Nat.le_refl _)
  have TR1 := Lib.hid (TR.out.keep hb1 (Nat.le_refl _))
  have HB1 := Lib.hid (show Below w.heap.size w w1 from bstep HBW.out hb1 (by omega))
  have hs1 := Lib.hid (show w.heap.size + 1 ≤ w1.heap.size by have := hb1.size; omega)
  clear hb1 TR HBW hsz
  have HSG := Lib.hid (frac_zero10 (neg := neg) (v := v) (by omega))
  obtain ⟨x0, hx0⟩ : ∃ x0, x0 = sgn neg v := ⟨_, rfl⟩
  rw [← hx0] at HSG
  obtain ⟨ta, hsz, hbw⟩ := box1 w1 #[.int .i64 x0, .int .i64 1] 23
  have TA := Lib.hid ta
  have TR2 := Lib.hid (TR1.out.keep hbw (Nat.le_refl _))
  have HB2 := Lib.hid (show Below w.heap.size w (w1.alloc (.cells #[.int .i64 x0, .int .i64 1] 23)) from bstep HB1.out hbw (by have := hs1.out; omega))
  clear ta hbw TR1 HB1
  go_upto_if 31 with (fail)
  go_cut [8] (fun x ws => x = .int .i64 x0 ∧ ws = w1)
  case first =>
    cases neg
    · go_wp2_with fail
      go_meet
      case rel => exact ⟨by rw [hx0]; rfl, rfl⟩
    · go_wp2_with fail
      go_meet
      case rel => exact ⟨by rw [hx0]; rfl, rfl⟩
  case rest =>
    obtain ⟨rfl, rfl⟩ := hcut
    clear hx0
    go_upto_region 9 with fail
    generalize hA : wc.heap.size = A at *
    generalize wc.alloc (.cells #[.int .i64 x0, .int .i64 1] 23) = W2 at *
    clear hA
    go_loopw [2] (fun x ws => ∃ j k : Nat, ∃ x' y' : Int, x = .int .i64 (k : Nat) ∧ k + j = back ∧ frac neg v (10 ^ j) = some (x', y') ∧ Blk ws w.heap.size #[.int .i64 0, .int .i64 0] ∧ Blk ws A #[.int .i64 x', .int .i64 y'] ∧ Below w.heap.size w ws) (fun x _ => (intOf x).toNat)
    case atStart => exact ⟨0, back, x0, 1, rfl, by omega, HSG.out, TR2.out, TA.out, HB2.out⟩
    case round =>
      obtain ⟨j, k, x, y, rfl, hkj, hfr, tr, ta, hbw⟩ := hrel
      obtain ⟨a0, a1, a2, a3⟩ := ta.two
      clear HSG TR2 TA HB2
      by_cases hk : (0 : Int) < k
      · have cd := fun w => div_step hfr w
        have TR := Lib.hid tr
        have TA := Lib.hid ta
        have HB := Lib.hid hbw
        have hKJ := Lib.hid hkj
        clear tr ta hbw hkj
        have HNEXT := Lib.hid (fun (hn : frac neg v (10 ^ (j + 1)) = none) => show F = none by
          rw [HF.out]; exact frac_mono_le (by omega) (by omega) hn back (by have := hKJ.out; omega))
        obtain ⟨G, hG⟩ : ∃ G, G = frac neg v (10 ^ (j + 1)) := ⟨_, rfl⟩
        rw [← hG] at HNEXT cd
        have HG := Lib.hid hG
        clear hG hfr
        go_wp2_with fail
        with_reducible refine (cd _).mono ?_
        rintro e w3 ⟨rfl, hb3⟩
        clear cd a0 a1 a2 a3
        have TR3 := Lib.hid (TR.out.keep hb3 (Nat.le_refl _))
        have TA3 := Lib.hid (TA.out.keep hb3 (Nat.le_refl _))
        have HB3 := Lib.hid (show Below w.heap.size w w3 from bstep HB.out hb3 (by have := HB.out.size; omega))
        clear hb3 TR TA HB
        rcases G with _ | ⟨x2, y2⟩
        · have HN := Lib.hid (HNEXT.out rfl)
          obtain ⟨tb, hsz, hbb⟩ := box1 w3 #[.int .i64 0, .int .i64 0] 23
          have TR4 := Lib.hid (TR3.out.keep hbb (Nat.le_refl _))
          have HB4 := Lib.hid (show Below w.heap.size w (w3.alloc (.cells #[.int .i64 0, .int .i64 0] 23)) from bstep HB3.out hbb (by have := HB3.out.size; omega))
          clear tb hsz hbb
          obtain ⟨r0, r1, r2, r3⟩ := TR4.out.two
          have ci := is_errno 9 9
          rw [show ((9 : Int) == 9) = true from rfl] at ci
          simp only [ratV, errV]
          go_wp2_with fail
          generalize w3.alloc (.cells #[.int .i64 0, .int .i64 0] 23) = W4 at *
          with_reducible refine (ci _).mono ?_
          rintro e w5 ⟨rfl, rfl⟩
          clear ci
          go_wp2_with fail
          exact bodyPost_ret (v := .tuple #[.agg #[.int .i64 0, .int .i64 0], errV 9]) (by simp [results, Tryz.results22, go_sem, r0, r1, errV]) rfl ⟨by rw [HN.out]; rfl, (HB4.out.setCell (by simp) _).setCell (by simp) _⟩
        · obtain ⟨tb, hsz, hbb⟩ := box1 w3 #[.int .i64 x2, .int .i64 y2] 23
          have TR4 := Lib.hid (TR3.out.keep hbb (Nat.le_refl _))
          have TA4 := Lib.hid (TA3.out.keep hbb (Nat.le_refl _))
          have TB4 := Lib.hid tb
          have HB4 := Lib.hid (show Below w.heap.size w (w3.alloc (.cells #[.int .i64 x2, .int .i64 y2] 23)) from bstep HB3.out hbb (by have := HB3.out.size; omega))
          clear tb hsz hbb
          obtain ⟨a0, a1, a2, a3⟩ := TA4.out.two
          obtain ⟨b0, b1, b2, b3⟩ := TB4.out.two
          have ci := is_nilE 9
          obtain ⟨k2, rfl⟩ : ∃ k2, k = k2 + 1 := ⟨k - 1, by omega⟩
          have hk62 : (k2 : Int) ≤ 62 := by have := hKJ.out; omega
          have ht : ((k2 + 1 : Nat) : Int) - 1 = (k2 : Int) := by omega
          simp only [ratV]
          go_wp2_with fail
          generalize w3.alloc (.cells #[.int .i64 x2, .int .i64 y2] 23) = W4 at *
          with_reducible refine (ci _).mono ?_
          rintro e w5 ⟨rfl, rfl⟩
          clear ci
          go_wp2_with fail
          go_roundw
          case rel => exact ⟨j + 1, k2, x2, y2, by first | rfl | go_num, by have := hKJ.out; omega, HG.out.symm, (TR4.out.other (by have := hs1.out; show A ≠ w.heap.size; omega) _).other (by have := hs1.out; show A ≠ w.heap.size; omega) _, (TA4.out.set 0 _).set 1 _, (HB4.out.setCell (by have := hs1.out; show w.heap.size ≤ A; omega) _).setCell (by have := hs1.out; show w.heap.size ≤ A; omega) _⟩
          case measure => (simp [intOf] <;> omega)
      · obtain rfl : k = 0 := by omega
        obtain rfl : j = back := by omega
        have HN := Lib.hid (show F = some (x, y) by rw [HF.out, hfr])
        obtain ⟨r0, r1, r2, r3⟩ := tr.two
        have HB := Lib.hid hbw
        clear tr ta hbw hfr HF
        go_wp2_with fail
        exact bodyPost_ret (v := .tuple #[.agg #[.int .i64 x, .int .i64 y], .nilIface]) (by simp [results, Tryz.results22, go_sem, r0, r1]) rfl ⟨by rw [HN.out]; rfl, (HB.out.setCell (by simp) _).setCell (by simp) _⟩
end Go.Proofs.YtajebceanonalaaGreatDoor
