/-
  The walk of LexScans.
-/
import Derived.Test.YtmifjfohanegiaaGreatDoorMarkS
import Derived.Test.YtmifjfohanegiaaGreatDoorAtF
import Derived.Test.YtmifjfohanegiaaGreatDoorApartTok

namespace Go.Proofs.YtmifjfohanegiaaGreatDoor
set_option linter.unusedVariables false
open Go.RowKit Go.Shelf

theorem scanF_err : ∀ (f : Nat) (s : List UInt8) (sk : Nat) (p : Int × Int) (acc : List TokD) (v : Value), 0 < p.1 → scanF f s sk p acc = .bad v → ∃ no L C, ErrAt v no L C := by
  intro f
  induction f with
  | zero => intro s sk p acc v hp h; simp [scanF] at h
  | succ f ih =>
    intro s sk p acc v hp h
    unfold scanF at h
    have hn : ∀ r, 0 < (nextP p r).1 := fun r => by unfold nextP; split <;> simp only <;> omega
    split at h
    · cases h
    · rename_i hne
      split at h
      · have hok := tokR_ok s hne
        cases ht : tokR s with
        | bad e =>
          rw [ht] at h hok
          injection h with h
          obtain ⟨h1, h2⟩ := hok
          exact ⟨(e : Nat), p.1, p.2, .inr ⟨h.symm, hp⟩, by omega, by omega⟩
        | good k t n =>
          rw [ht] at h
          exact ih _ _ _ _ _ (hn _) h
      · exact ih _ _ _ _ _ (hn _) h
theorem scanL_err {s : List UInt8} {v : Value} (h : scanL s = .bad v) : ∃ no L C, ErrAt v no L C := by
  rcases scan_plain_cases s with ⟨_, h2, _⟩ | ⟨u, h1, h2, _⟩ | ⟨_, h2, _⟩
  · rw [h] at h2; injection h2 with h2
    exact ⟨5, 0, 0, .inl ⟨h2, rfl, rfl⟩, by decide, by decide⟩
  · rw [h] at h2; injection h2 with h2
    exact ⟨6, _, _, .inr ⟨h2, h1⟩, by decide, by decide⟩
  · rw [h] at h2
    exact scanF_err _ _ _ _ _ _ (by decide) h2.symm
theorem errAt_det {v : Value} {n L C n' L' C' : Int} (h : ErrAt v n L C) (h2 : ErrAt v n' L' C') : n = n' ∧ L = L' ∧ C = C' := by
  rcases h.1 with ⟨h3, rfl, rfl⟩ | ⟨h3, _⟩ <;> rcases h2.1 with ⟨h4, rfl, rfl⟩ | ⟨h4, _⟩
  · rw [h3] at h4; unfold errV at h4; simp at h4; exact ⟨h4, rfl, rfl⟩
  · rw [h3] at h4; unfold errV faultV at h4; simp at h4
  · rw [h3] at h4; unfold errV faultV at h4; simp at h4
  · rw [h3] at h4; unfold faultV at h4; simp at h4; exact h4
/-- the program's answer and the reference's -/
theorem scan_form (s : List UInt8) (hs : s.length ≤ 9223372036854775807) : ∃ (l : List TokD) (err : Value) (k L C : Int), l.length ≤ 1048577 ∧
    ((L = 0 ∧ ∀ w', LaidT w' → Calls Tryz.prog 14 #[err, .int .i64 k] w' fun e w'' => e = .returned (.bool true) ∧ Below w'.heap.size w' w'') ∨
     (0 < L ∧ ∀ w', LaidT w' → Calls Tryz.prog 71 #[err, .int .i64 k, .int .i64 L, .int .i64 C] w' fun e w'' => e = .returned (.bool true) ∧ Below w'.heap.size w' w'')) ∧
    (∀ w, TabsU w → Calls Tryz.prog 6 #[.string ⟨s.toArray⟩] w fun e w' => ∃ v, e = .returned (.tuple #[v, err]) ∧ Below w.heap.size w w' ∧ Owns w' w.heap.size 33 4 enTok v l) ∧
    (∀ w, Calls Tryz.prog 72 #[.string ⟨s.toArray⟩] w fun e w' => ∃ v, e = .returned (.tuple #[v, .int .i64 k, .agg #[.int .i64 L, .int .i64 C]]) ∧ Below w.heap.size w w' ∧ Owns w' w.heap.size 33 4 enTok v l) := by
  have c1 := fun w hT => scan_any s hs w hT
  have c4 := fun w => scan4_any s hs w
  cases hw : scanL s with
  | bad v =>
    obtain ⟨k, L, C, he⟩ := scanL_err hw
    rw [hw] at c1 c4
    refine ⟨[], v, k, L, C, by simp, ?_, fun w hT => (c1 w hT).mono ?_, fun w => (c4 w).mono ?_⟩
    · obtain ⟨h1, h2, h3⟩ := he
      rcases h1 with ⟨rfl, rfl, rfl⟩ | ⟨rfl, h4⟩
      · exact .inl ⟨rfl, fun w' hg => by simpa using plain_errno k k h2 h3 w' hg⟩
      · exact .inr ⟨h4, fun w' hg => at_flt k L C h2 h3 w' hg⟩
    · rintro e w' ⟨rfl, hb⟩
      exact ⟨_, rfl, hb, Owns.nil _ _ _ _ _⟩
    · rintro e w' ⟨no, L', C', rfl, hb, he'⟩
      obtain ⟨rfl, rfl, rfl⟩ := errAt_det he he'
      exact ⟨_, rfl, hb, Owns.nil _ _ _ _ _⟩
  | good l =>
    obtain ⟨b1, b2, -, -⟩ := scanL_bd hw
    rw [hw] at c1 c4
    refine ⟨l, .nilIface, 0, 0, 0, by omega, .inl ⟨rfl, fun w' hg => by simpa using plain_nil 0 w'⟩, fun w hT => (c1 w hT).mono ?_, fun w => (c4 w).mono ?_⟩
    · rintro e w' ⟨a, c, rfl, ho, hb⟩
      exact ⟨_, rfl, hb, ho⟩
    · rintro e w' ⟨a, c, rfl, ho, hb⟩
      exact ⟨_, rfl, hb, ho⟩
/-- two lists of tokens lie apart -/
theorem apart2_any (base : Nat) (l : List TokD) (hl : l.length ≤ 1048577) (n m : Nat) (hn : n = l.length) (hm : m = l.length) (aa ab : Option Addr) (ca cb : Nat) (w : World) (hB : base ≤ w.heap.size) (hoa : Owns w base 33 4 enTok (.slice aa n ca) l) (hob : Owns w base 33 4 enTok (.slice ab m cb) l) (hab : Apart (.slice aa n ca) (.slice ab m cb)) :
    Calls Tryz.prog 73 #[.slice (some ⟨w.heap.size, 0, none⟩) 2 2] (w.alloc (.cells #[.slice aa n ca, .slice ab m cb] 23)) fun e w' => e = .returned (.bool true) ∧ Below base w w' := by
  have hlist : Owns (w.alloc (.cells #[.slice aa n ca, .slice ab m cb] 23)) base 23 1 enV (.slice (some ⟨w.heap.size, 0, none⟩) 2 2) ((List.range 2).map (fun j => if j = 0 then .slice aa n ca else .slice ab m cb)) :=
    Owns.lit w base enV 1 (fun _ => rfl) _ _ _ 2 rfl rfl (by decide) hB
  have hnew : Below w.heap.size w (w.alloc (.cells #[.slice aa n ca, .slice ab m cb] 23)) := (Below.refl _ _).alloc (Nat.le_refl _) _
  replace hoa := hoa.keep hnew (Nat.le_refl _)
  replace hob := hob.keep hnew (Nat.le_refl _)
  refine (apartTokens_any base 2 (fun j => if j = 0 then .slice aa n ca else .slice ab m cb) (fun _ => l) _ _ _ (by omega) (by simp; omega) ?_ ?_ hlist ?_).mono ?_
  · intro j hj
    rcases (show j = 0 ∨ j = 1 by omega) with rfl | rfl
    · exact hoa
    · exact hob
  · intro i j hi hj hij
    rcases (show i = 0 ∨ i = 1 by omega) with rfl | rfl <;> rcases (show j = 0 ∨ j = 1 by omega) with rfl | rfl
    · omega
    · exact hab
    · exact hab.symm
    · omega
  · intro j hj
    show (l.length + 64) * 40 ≤ 140737488355328
    omega
  rintro e w13 ⟨rfl, hb⟩
  exact ⟨rfl, (hnew.mono hB).trans hb⟩

set_option maxRecDepth 100000 in
set_option maxHeartbeats 4000000 in
theorem lexscans_any (s : List UInt8) (hs : s.length ≤ 9223372036854775807) (w : World) (hT : TabsU w) (hg : LaidT w) :
    Calls Tryz.prog 35 #[.string ⟨s.toArray⟩] w fun e w' => e = .returned (.bool true) ∧ Below w.heap.size w w' := by
  obtain ⟨l, err, k, L, C, hl, hP, cS, cR⟩ := scan_form s hs
  have HG := Lib.hid hg
  have HT := Lib.hid hT
  have HP := Lib.hid hP
  have HL := Lib.hid hl
  clear hg hT hP hl
  go_enter Tryz.func35, Tryz.ntmps35
  go_wp2_with fail
  with_reducible refine (cS _ HT.out).mono ?_
  rintro e w1 ⟨va, rfl, hb, hoa⟩
  replace HG := Lib.hid (LaidT.keep HG.out hb)
  replace HT := Lib.hid (HT.out.keep hb)
  have HB := Lib.hid hb
  have hs1 := hb.size
  have hma := fun k h => (hoa.lt k h).2
  have HOA := Lib.hid hoa
  clear hb hoa
  go_wp2_with fail
  with_reducible refine (cS _ HT.out).mono ?_
  rintro e w2 ⟨vb, rfl, hb, hob⟩
  replace HG := Lib.hid (LaidT.keep HG.out hb)
  replace HB := Lib.hid (bstep HB.out hb (Nat.le_refl _))
  have hs2 := hb.size
  replace HOA := Lib.hid (HOA.out.keep hb (Nat.le_refl _))
  have hnb := fun k h => (hob.lt k h).1
  have HOB := Lib.hid (hob.fromBase hs1)
  have HAB := Lib.hid (show Apart va vb from fun k h1 h2 => by have := hma k h1; have := hnb k h2; omega)
  clear hb hob HT cS hma hnb
  go_wp2_with fail
  with_reducible refine (cR _).mono ?_
  rintro e w3 ⟨vc, rfl, hb, hoc⟩
  replace HG := Lib.hid (LaidT.keep HG.out hb)
  replace HB := Lib.hid (bstep HB.out hb (Nat.le_refl _))
  have hs3 := hb.size
  replace HOA := Lib.hid (HOA.out.keep hb (Nat.le_refl _))
  replace HOB := Lib.hid (HOB.out.keep hb (Nat.le_refl _))
  have HOC := Lib.hid (hoc.fromBase (show w.heap.size ≤ w2.heap.size by omega))
  clear hb hoc cR
  have HN := Lib.hid ((Below.refl w3.heap.size w3).alloc (Nat.le_refl _) (.cells #[.int .i64 L, .int .i64 C] 31))
  have HKA := Lib.hid (Blk.new w3 #[.int .i64 L, .int .i64 C] 31)
  obtain ⟨aa, ca, hva, -⟩ := HOA.out.shape
  obtain ⟨ab, cb, hvb, -⟩ := HOB.out.shape
  obtain ⟨ac, cc, hvc, -⟩ := HOC.out.shape
  subst hva
  subst hvb
  subst hvc
  replace HG := Lib.hid (LaidT.keep HG.out HN.out)
  replace HB := Lib.hid (bstep HB.out HN.out (Nat.le_refl _))
  replace HOA := Lib.hid (HOA.out.keep HN.out (Nat.le_refl _))
  replace HOB := Lib.hid (HOB.out.keep HN.out (Nat.le_refl _))
  replace HOC := Lib.hid (HOC.out.keep HN.out (Nat.le_refl _))
  have hs4 := HN.out.size
  clear HN
  go_wp2_with fail
  generalize w3.alloc (.cells #[.int .i64 L, .int .i64 C] 31) = w4 at *
  with_reducible refine (sameTokens_any l _ _ rfl rfl _ _ _ _ _ HOA.out.sl.2 HOC.out.sl.2).mono ?_
  rintro e w5 ⟨rfl, hb⟩
  replace HG := Lib.hid (LaidT.keep HG.out hb)
  replace HB := Lib.hid (bstep HB.out hb (Nat.le_refl _))
  replace HOA := Lib.hid (HOA.out.keep hb (Nat.le_refl _))
  replace HOB := Lib.hid (HOB.out.keep hb (Nat.le_refl _))
  replace HOC := Lib.hid (HOC.out.keep hb (Nat.le_refl _))
  replace HKA := Lib.hid (HKA.out.keep hb (Nat.le_refl _))
  clear hb
  go_wp2_with fail
  with_reducible refine (sameTokens_any l _ _ rfl rfl _ _ _ _ _ HOB.out.sl.2 HOC.out.sl.2).mono ?_
  rintro e w6 ⟨rfl, hb⟩
  replace HG := Lib.hid (LaidT.keep HG.out hb)
  replace HB := Lib.hid (bstep HB.out hb (Nat.le_refl _))
  replace HOA := Lib.hid (HOA.out.keep hb (Nat.le_refl _))
  replace HOB := Lib.hid (HOB.out.keep hb (Nat.le_refl _))
  replace HKA := Lib.hid (HKA.out.keep hb (Nat.le_refl _))
  clear hb HOC
  rcases HP.out with ⟨rfl, cP⟩ | ⟨h0, cP⟩
  · obtain ⟨q0, q1, -, -⟩ := HKA.out.two
    clear HP
    go_wp2_with fail
    with_reducible refine (cP _ HG.out).mono ?_
    rintro e w7 ⟨rfl, hb⟩
    replace HG := Lib.hid (LaidT.keep HG.out hb)
    replace HB := Lib.hid (bstep HB.out hb (Nat.le_refl _))
    replace HOA := Lib.hid (HOA.out.keep hb (Nat.le_refl _))
    replace HOB := Lib.hid (HOB.out.keep hb (Nat.le_refl _))
    replace HKA := Lib.hid (HKA.out.keep hb (Nat.le_refl _))
    clear hb q0 q1
    go_wp2_with fail
    with_reducible refine (cP _ HG.out).mono ?_
    rintro e w8 ⟨rfl, hb⟩
    replace HB := Lib.hid (bstep HB.out hb (Nat.le_refl _))
    replace HOA := Lib.hid (HOA.out.keep hb (Nat.le_refl _))
    replace HOB := Lib.hid (HOB.out.keep hb (Nat.le_refl _))
    replace HKA := Lib.hid (HKA.out.keep hb (Nat.le_refl _))
    obtain ⟨q0, q1, -, -⟩ := HKA.out.two
    clear hb cP
    go_wp2_with fail
    with_reducible refine (apart2_any w.heap.size l HL.out _ _ rfl rfl _ _ _ _ _ HB.out.size HOA.out HOB.out HAB.out).mono ?_
    rintro e w9 ⟨rfl, hb⟩
    have HBF := Lib.hid (HB.out.trans hb)
    clear hb
    go_wp2_with fail
    go_ret
    exact ⟨rfl, HBF.out⟩
  · obtain ⟨q0, q1, -, -⟩ := HKA.out.two
    have hL0 : (L == 0) = false := by rw [beq_eq_false_iff_ne]; omega
    clear HP
    go_wp2_with fail
    with_reducible refine (cP _ HG.out).mono ?_
    rintro e w7 ⟨rfl, hb⟩
    replace HG := Lib.hid (LaidT.keep HG.out hb)
    replace HB := Lib.hid (bstep HB.out hb (Nat.le_refl _))
    replace HOA := Lib.hid (HOA.out.keep hb (Nat.le_refl _))
    replace HOB := Lib.hid (HOB.out.keep hb (Nat.le_refl _))
    replace HKA := Lib.hid (HKA.out.keep hb (Nat.le_refl _))
    clear q0 q1
    obtain ⟨q0, q1, -, -⟩ := HKA.out.two
    clear hb
    go_wp2_with fail
    with_reducible refine (cP _ HG.out).mono ?_
    rintro e w8 ⟨rfl, hb⟩
    replace HB := Lib.hid (bstep HB.out hb (Nat.le_refl _))
    replace HOA := Lib.hid (HOA.out.keep hb (Nat.le_refl _))
    replace HOB := Lib.hid (HOB.out.keep hb (Nat.le_refl _))
    clear hb cP
    go_wp2_with fail
    with_reducible refine (apart2_any w.heap.size l HL.out _ _ rfl rfl _ _ _ _ _ HB.out.size HOA.out HOB.out HAB.out).mono ?_
    rintro e w9 ⟨rfl, hb⟩
    have HBF := Lib.hid (HB.out.trans hb)
    clear hb
    go_wp2_with fail
    go_ret
    exact ⟨rfl, HBF.out⟩
theorem lexscans_str (s : ByteArray) (hs : s.size ≤ 9223372036854775807) (w : World) (hT : TabsU w) (hg : LaidT w) :
    Calls Tryz.prog 35 #[.string s] w fun e w' => e = .returned (.bool true) ∧ Below w.heap.size w w' := by
  have e : (⟨s.data.toList.toArray⟩ : ByteArray) = s := by cases s; simp
  have h := lexscans_any s.data.toList (by rw [Array.length_toList]; exact hs) w hT hg
  rw [e] at h
  exact h
end Go.Proofs.YtmifjfohanegiaaGreatDoor
