/-
  The walk of RatNews.
-/
import Derived.Test.YtaipghojggiopaaDoorPlain
import Derived.Test.YtaipghojggiopaaDoorNatH
namespace Go.Proofs.YtaipghojggiopaaDoor
set_option linter.unusedVariables false
open Go.RowKit

theorem fitE_in {neg : Bool} {N D : Nat} {n d : Int} (h : fitE neg N D = some (n, d)) : In64 n ∧ In64 d := by
  unfold fitE at h
  unfold In64
  split at h
  · simp only [Option.some.injEq, Prod.mk.injEq] at h; omega
  · split at h
    · cases h
    · rename_i h1 h2
      simp only [Option.some.injEq, Prod.mk.injEq] at h
      unfold sgn at h
      cases neg <;> simp at h h2 <;> omega
theorem news_form (n d : Int) (P R : Value) (hP : P = if d = 0 then .tuple #[.agg #[.int .i64 0, .int .i64 0], errV 10] else ratV (frac (decide (n < 0) != decide (d < 0)) n.natAbs d.natAbs))
    (hR : R = if d = 0 then .tuple #[.agg #[.int .i64 0, .int .i64 0], .int .i64 10] else refV (frac (decide (n < 0) != decide (d < 0)) n.natAbs d.natAbs)) :
    ∃ (x y : Int) (e : Value) (k : Int), P = .tuple #[.agg #[.int .i64 x, .int .i64 y], e] ∧ R = .tuple #[.agg #[.int .i64 x, .int .i64 y], .int .i64 k] ∧ In64 x ∧ In64 y ∧
      (∀ w, LaidT w → Calls Tryd.prog 16 #[e, .int .i64 k] w fun e w' => e = .returned (.bool true) ∧ Below w.heap.size w w') := by
  have z : In64 0 := by unfold In64; omega
  by_cases h : d = 0
  · rw [if_pos h] at hP hR
    exact ⟨0, 0, _, 10, hP, hR, z, z, fun w hg => by simpa using plain_errno 10 10 (by omega) (by omega) w hg⟩
  · rw [if_neg h] at hP hR
    cases hF : frac (decide (n < 0) != decide (d < 0)) n.natAbs d.natAbs with
    | none =>
      rw [hF] at hP hR
      exact ⟨0, 0, _, 9, hP, hR, z, z, fun w hg => by simpa using plain_errno 9 9 (by omega) (by omega) w hg⟩
    | some p =>
      obtain ⟨x, y⟩ := p
      rw [hF] at hP hR
      have hi := fitE_in (show fitE _ _ _ = some (x, y) from hF)
      exact ⟨x, y, _, 0, hP, hR, hi.1, hi.2, fun w hg => by simpa using plain_nil 0 w⟩

set_option maxRecDepth 100000 in
set_option maxHeartbeats 2000000 in
theorem ratnews_any (n d : Int) (hn : In64 n) (hd : In64 d) (w : World) (hg : LaidT w) :
    Calls Tryd.prog 3 #[.int .i64 n, .int .i64 d] w fun e w' => e = .returned (.bool true) ∧ Below w.heap.size w w' := by
  have cn := new_any n d hn hd
  have cr := refnew_any n d hn hd
  obtain ⟨P, hP⟩ : ∃ P, P = (if d = 0 then Value.tuple #[.agg #[.int .i64 0, .int .i64 0], errV 10] else ratV (frac (decide (n < 0) != decide (d < 0)) n.natAbs d.natAbs)) := ⟨_, rfl⟩
  obtain ⟨R, hR⟩ : ∃ R, R = (if d = 0 then Value.tuple #[.agg #[.int .i64 0, .int .i64 0], .int .i64 10] else refV (frac (decide (n < 0) != decide (d < 0)) n.natAbs d.natAbs)) := ⟨_, rfl⟩
  rw [← hP] at cn
  rw [← hR] at cr
  obtain ⟨x, y, e, k, rfl, rfl, hx, hy, cp⟩ := news_form n d P R hP hR
  clear hP hR
  have r1 := right_any x y hx hy
  have r2 := refright_any x y hx hy
  have HG := Lib.hid hg
  clear hg
  go_enter Tryd.func3, Tryd.ntmps3
  go_wp2_with fail
  with_reducible refine (cn _).mono ?_
  rintro e w1 ⟨rfl, hb1⟩
  have HG1 := Lib.hid (HG.out.keep hb1)
  have HB1 := Lib.hid hb1
  clear hb1 cn HG
  go_wp2_with fail
  with_reducible refine (cr _).mono ?_
  rintro e w2 ⟨rfl, hb2⟩
  obtain ⟨ta, hsz, hbw⟩ := box1 w1 #[.int .i64 x, .int .i64 y] 23
  have TA := Lib.hid (ta.keep hb2 (Nat.le_refl _))
  have HG2 := Lib.hid ((HG1.out.keep hbw).keep hb2)
  have HB2 := Lib.hid ((HB1.out.trans (hbw.mono HB1.out.size)).trans (hb2.mono (Nat.le_trans HB1.out.size hbw.size)))
  clear hb2 cr HG1 HB1 hsz hbw ta
  obtain ⟨tb, hsz, hbw⟩ := box1 w2 #[.int .i64 x, .int .i64 y] 23
  have TB := Lib.hid tb
  obtain ⟨a0, a1, a2, a3⟩ := (TA.out.keep hbw (Nat.le_refl _)).two
  obtain ⟨b0, b1, b2, b3⟩ := TB.out.two
  have HG3 := Lib.hid (HG2.out.keep hbw)
  have HB4 := Lib.hid (HB2.out.trans (hbw.mono HB2.out.size))
  have TA2 := Lib.hid (TA.out.keep hbw (Nat.le_refl _))
  clear hsz hbw tb
  have ci := fun w2 hg => is_same_any x y e k true w2 (fun w' hb => cp w' (LaidT.keep hg hb))
  go_wp2_with fail
  have l0 := fun x : Later _ => Later.cell a0 x
  have l1 := fun x : Later _ => Later.cell a1 x
  have l2 := fun x : Later _ => Later.cell b0 x
  have l3 := fun x : Later _ => Later.cell b1 x
  have li := fun x : Later (w2.alloc (.cells #[.int .i64 x, .int .i64 y] 23)) => ci x.w (LaidT.keep HG3.out x.below)
  refine wp_region_later0 (by kernel_rfl) (by kernel_rfl) ?_
  repeat (go_big_quiet_step ((first | (go_at_call 9; with_reducible exact Later.made (li _)) | (go_at_call 10; with_reducible exact Later.made (r1 _)) | (go_at_call 11; with_reducible exact Later.made (r2 _)))))
  refine wpQuiet_nil ?_
  rintro _ ⟨x, rfl⟩
  have HB5 := Lib.hid (bstep HB4.out x.below (Nat.le_refl _))
  generalize x.w = w3 at *
  go_wp2_with fail
  go_ret
  exact ⟨rfl, HB5.out⟩
end Go.Proofs.YtaipghojggiopaaDoor
