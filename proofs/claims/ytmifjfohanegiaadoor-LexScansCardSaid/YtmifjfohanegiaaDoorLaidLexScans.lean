/-
  What the row LexScans lists: a world that meets it; what it gives.
-/
import Derived.Test.YtmifjfohanegiaaDoorRlxH
import Derived.Test.YtmifjfohanegiaaDoorMarkS
import Derived.Test.YtmifjfohanegiaaDoorApartTok
import Derived.Test.YtmifjfohanegiaaDoorCards
import Derived.Test.YtmifjfohanegiaaDoorTie
import Derived.Test.YtmifjfohanegiaaDoorPlain
import Derived.Test.YtmifjfohanegiaaDoorChrD
import Derived.Lay
import Derived.Stop.LaidErr
import Derived.LaidLaws
import Derived.LaidHandle
import Derived.LaidMore
import Derived.MakeChecks
import Derived.Stop.Joined
import Derived.RowKit
import Derived.RowKitTokens
import Derived.ChangeSame
import Derived.ChangeVars
import Derived.JoinedOf
import Derived.Lib.LaidTab
import Derived.Lib.LaidU8

namespace Go.Proofs.YtmifjfohanegiaaDoor
set_option linter.unusedVariables false
open Go.RowKit Go.Shelf

theorem scanF_err : ∀ (f : Nat) (s : List UInt8) (sk : Nat) (p : Int × Int) (acc : List TokD) (v : Value), 0 < p.1 → scanF f s sk p acc = .bad v → ∃ no L C, ErrAt v no L C := by
  intro f
  induction f with
  | zero => intro s sk p acc v hp h; simp [scanF] at h
  | succ f ih =>
    intro s sk p acc v hp h
    unfold scanF at h
    have hn : ∀ r, 0 < (nextP p r).1 := fun r => by unfold nextP; split <;> simp only <;> omega
    split at h
    · cases h
    · rename_i hne
      split at h
      · have hok := tokR_ok s hne
        cases ht : tokR s with
        | bad e =>
          rw [ht] at h hok
          injection h with h
          obtain ⟨h1, h2⟩ := hok
          exact ⟨(e : Nat), p.1, p.2, .inr ⟨h.symm, hp⟩, by omega, by omega⟩
        | good k t n =>
          rw [ht] at h
          exact ih _ _ _ _ _ (hn _) h
      · exact ih _ _ _ _ _ (hn _) h
theorem scanL_err {s : List UInt8} {v : Value} (h : scanL s = .bad v) : ∃ no L C, ErrAt v no L C := by
  rcases scan_plain_cases s with ⟨_, h2, _⟩ | ⟨u, h1, h2, _⟩ | ⟨_, h2, _⟩
  · rw [h] at h2; injection h2 with h2
    exact ⟨5, 0, 0, .inl ⟨h2, rfl, rfl⟩, by decide, by decide⟩
  · rw [h] at h2; injection h2 with h2
    exact ⟨6, _, _, .inr ⟨h2, h1⟩, by decide, by decide⟩
  · rw [h] at h2
    exact scanF_err _ _ _ _ _ _ (by decide) h2.symm
theorem errAt_det {v : Value} {n L C n' L' C' : Int} (h : ErrAt v n L C) (h2 : ErrAt v n' L' C') : n = n' ∧ L = L' ∧ C = C' := by
  rcases h.1 with ⟨h3, rfl, rfl⟩ | ⟨h3, _⟩ <;> rcases h2.1 with ⟨h4, rfl, rfl⟩ | ⟨h4, _⟩
  · rw [h3] at h4; unfold errV at h4; simp at h4; exact ⟨h4, rfl, rfl⟩
  · rw [h3] at h4; unfold errV faultV at h4; simp at h4
  · rw [h3] at h4; unfold errV faultV at h4; simp at h4
  · rw [h3] at h4; unfold faultV at h4; simp at h4; exact h4
/-- the program's answer and the reference's -/
theorem scan_form (s : List UInt8) (hs : s.length ≤ 9223372036854775807) : ∃ (l : List TokD) (err : Value) (k L C : Int), l.length ≤ 1048577 ∧
    ((L = 0 ∧ ∀ w', LaidT w' → Calls Tryd.prog 7 #[err, .int .i64 k] w' fun e w'' => e = .returned (.bool true) ∧ Below w'.heap.size w' w'') ∨
     (0 < L ∧ ∀ w', LaidT w' → Calls Tryd.prog 8 #[err, .int .i64 k, .int .i64 L, .int .i64 C] w' fun e w'' => e = .returned (.bool true) ∧ Below w'.heap.size w' w'')) ∧
    (∀ w, TabsU w → Calls Tryd.prog 4 #[.string ⟨s.toArray⟩] w fun e w' => ∃ v, e = .returned (.tuple #[v, err]) ∧ Below w.heap.size w w' ∧ Owns w' w.heap.size 39 4 enTok v l) ∧
    (∀ w, Calls Tryd.prog 5 #[.string ⟨s.toArray⟩] w fun e w' => ∃ v, e = .returned (.tuple #[v, .int .i64 k, .agg #[.int .i64 L, .int .i64 C]]) ∧ Below w.heap.size w w' ∧ Owns w' w.heap.size 39 4 enTok v l) := by
  have c1 := fun w hT => scan_any s hs w hT
  have c4 := fun w => scan4_any s hs w
  cases hw : scanL s with
  | bad v =>
    obtain ⟨k, L, C, he⟩ := scanL_err hw
    rw [hw] at c1 c4
    refine ⟨[], v, k, L, C, by simp, ?_, fun w hT => (c1 w hT).mono ?_, fun w => (c4 w).mono ?_⟩
    · obtain ⟨h1, h2, h3⟩ := he
      rcases h1 with ⟨rfl, rfl, rfl⟩ | ⟨rfl, h4⟩
      · exact .inl ⟨rfl, fun w' hg => by simpa using plain_errno k k h2 h3 w' hg⟩
      · exact .inr ⟨h4, fun w' hg => at_flt k L C h2 h3 w' hg⟩
    · rintro e w' ⟨rfl, hb⟩
      exact ⟨_, rfl, hb, Owns.nil _ _ _ _ _⟩
    · rintro e w' ⟨no, L', C', rfl, hb, he'⟩
      obtain ⟨rfl, rfl, rfl⟩ := errAt_det he he'
      exact ⟨_, rfl, hb, Owns.nil _ _ _ _ _⟩
  | good l =>
    obtain ⟨b1, b2, -, -⟩ := scanL_bd hw
    rw [hw] at c1 c4
    refine ⟨l, .nilIface, 0, 0, 0, by omega, .inl ⟨rfl, fun w' hg => by simpa using plain_nil 0 w'⟩, fun w hT => (c1 w hT).mono ?_, fun w => (c4 w).mono ?_⟩
    · rintro e w' ⟨a, c, rfl, ho, hb⟩
      exact ⟨_, rfl, hb, ho⟩
    · rintro e w' ⟨a, c, rfl, ho, hb⟩
      exact ⟨_, rfl, hb, ho⟩
/-- two lists of tokens lie apart -/
theorem apart2_any (base : Nat) (l : List TokD) (hl : l.length ≤ 1048577) (n m : Nat) (hn : n = l.length) (hm : m = l.length) (aa ab : Option Addr) (ca cb : Nat) (w : World) (hB : base ≤ w.heap.size) (hoa : Owns w base 39 4 enTok (.slice aa n ca) l) (hob : Owns w base 39 4 enTok (.slice ab m cb) l) (hab : Apart (.slice aa n ca) (.slice ab m cb)) :
    Calls Tryd.prog 9 #[.slice (some ⟨w.heap.size, 0, none⟩) 2 2] (w.alloc (.cells #[.slice aa n ca, .slice ab m cb] 22)) fun e w' => e = .returned (.bool true) ∧ Below base w w' := by
  have hlist : Owns (w.alloc (.cells #[.slice aa n ca, .slice ab m cb] 22)) base 22 1 enV (.slice (some ⟨w.heap.size, 0, none⟩) 2 2) ((List.range 2).map (fun j => if j = 0 then .slice aa n ca else .slice ab m cb)) :=
    Owns.lit w base enV 1 (fun _ => rfl) _ _ _ 2 rfl rfl (by decide) hB
  have hnew : Below w.heap.size w (w.alloc (.cells #[.slice aa n ca, .slice ab m cb] 22)) := (Below.refl _ _).alloc (Nat.le_refl _) _
  replace hoa := hoa.keep hnew (Nat.le_refl _)
  replace hob := hob.keep hnew (Nat.le_refl _)
  refine (apartTokens_any base 2 (fun j => if j = 0 then .slice aa n ca else .slice ab m cb) (fun _ => l) _ _ _ (by omega) (by simp; omega) ?_ ?_ hlist ?_).mono ?_
  · intro j hj
    rcases (show j = 0 ∨ j = 1 by omega) with rfl | rfl
    · exact hoa
    · exact hob
  · intro i j hi hj hij
    rcases (show i = 0 ∨ i = 1 by omega) with rfl | rfl <;> rcases (show j = 0 ∨ j = 1 by omega) with rfl | rfl
    · omega
    · exact hab
    · exact hab.symm
    · omega
  · intro j hj
    show (l.length + 64) * 40 ≤ 140737488355328
    omega
  rintro e w13 ⟨rfl, hb⟩
  exact ⟨rfl, (hnew.mono hB).trans hb⟩

set_option maxRecDepth 100000 in
set_option maxHeartbeats 4000000 in
theorem lexscans_any (s : List UInt8) (hs : s.length ≤ 9223372036854775807) (w : World) (hT : TabsU w) (hg : LaidT w) :
    Calls Tryd.prog 3 #[.string ⟨s.toArray⟩] w fun e w' => e = .returned (.bool true) ∧ Below w.heap.size w w' := by
  obtain ⟨l, err, k, L, C, hl, hP, cS, cR⟩ := scan_form s hs
  have HG := Lib.hid hg
  have HT := Lib.hid hT
  have HP := Lib.hid hP
  have HL := Lib.hid hl
  clear hg hT hP hl
  go_enter Tryd.func3, Tryd.ntmps3
  go_wp2_with fail
  with_reducible refine (cS _ HT.out).mono ?_
  rintro e w1 ⟨va, rfl, hb, hoa⟩
  replace HG := Lib.hid (LaidT.keep HG.out hb)
  replace HT := Lib.hid (HT.out.keep hb)
  have HB := Lib.hid hb
  have hs1 := hb.size
  have hma := fun k h => (hoa.lt k h).2
  have HOA := Lib.hid hoa
  clear hb hoa
  go_wp2_with fail
  with_reducible refine (cS _ HT.out).mono ?_
  rintro e w2 ⟨vb, rfl, hb, hob⟩
  replace HG := Lib.hid (LaidT.keep HG.out hb)
  replace HB := Lib.hid (bstep HB.out hb (Nat.le_refl _))
  have hs2 := hb.size
  replace HOA := Lib.hid (HOA.out.keep hb (Nat.le_refl _))
  have hnb := fun k h => (hob.lt k h).1
  have HOB := Lib.hid (hob.fromBase hs1)
  have HAB := Lib.hid (show Apart va vb from fun k h1 h2 => by have := hma k h1; have := hnb k h2; omega)
  clear hb hob HT cS hma hnb
  go_wp2_with fail
  with_reducible refine (cR _).mono ?_
  rintro e w3 ⟨vc, rfl, hb, hoc⟩
  replace HG := Lib.hid (LaidT.keep HG.out hb)
  replace HB := Lib.hid (bstep HB.out hb (Nat.le_refl _))
  have hs3 := hb.size
  replace HOA := Lib.hid (HOA.out.keep hb (Nat.le_refl _))
  replace HOB := Lib.hid (HOB.out.keep hb (Nat.le_refl _))
  have HOC := Lib.hid (hoc.fromBase (show w.heap.size ≤ w2.heap.size by omega))
  clear hb hoc cR
  have HN := Lib.hid ((Below.refl w3.heap.size w3).alloc (Nat.le_refl _) (.cells #[.int .i64 L, .int .i64 C] 28))
  have HKA := Lib.hid (Blk.new w3 #[.int .i64 L, .int .i64 C] 28)
  obtain ⟨aa, ca, hva, -⟩ := HOA.out.shape
  obtain ⟨ab, cb, hvb, -⟩ := HOB.out.shape
  obtain ⟨ac, cc, hvc, -⟩ := HOC.out.shape
  subst hva
  subst hvb
  subst hvc
  replace HG := Lib.hid (LaidT.keep HG.out HN.out)
  replace HB := Lib.hid (bstep HB.out HN.out (Nat.le_refl _))
  replace HOA := Lib.hid (HOA.out.keep HN.out (Nat.le_refl _))
  replace HOB := Lib.hid (HOB.out.keep HN.out (Nat.le_refl _))
  replace HOC := Lib.hid (HOC.out.keep HN.out (Nat.le_refl _))
  have hs4 := HN.out.size
  clear HN
  go_wp2_with fail
  generalize w3.alloc (.cells #[.int .i64 L, .int .i64 C] 28) = w4 at *
  with_reducible refine (sameTokens_any l _ _ rfl rfl _ _ _ _ _ HOA.out.sl.2 HOC.out.sl.2).mono ?_
  rintro e w5 ⟨rfl, hb⟩
  replace HG := Lib.hid (LaidT.keep HG.out hb)
  replace HB := Lib.hid (bstep HB.out hb (Nat.le_refl _))
  replace HOA := Lib.hid (HOA.out.keep hb (Nat.le_refl _))
  replace HOB := Lib.hid (HOB.out.keep hb (Nat.le_refl _))
  replace HOC := Lib.hid (HOC.out.keep hb (Nat.le_refl _))
  replace HKA := Lib.hid (HKA.out.keep hb (Nat.le_refl _))
  clear hb
  go_wp2_with fail
  with_reducible refine (sameTokens_any l _ _ rfl rfl _ _ _ _ _ HOB.out.sl.2 HOC.out.sl.2).mono ?_
  rintro e w6 ⟨rfl, hb⟩
  replace HG := Lib.hid (LaidT.keep HG.out hb)
  replace HB := Lib.hid (bstep HB.out hb (Nat.le_refl _))
  replace HOA := Lib.hid (HOA.out.keep hb (Nat.le_refl _))
  replace HOB := Lib.hid (HOB.out.keep hb (Nat.le_refl _))
  replace HKA := Lib.hid (HKA.out.keep hb (Nat.le_refl _))
  clear hb HOC
  rcases HP.out with ⟨rfl, cP⟩ | ⟨h0, cP⟩
  · obtain ⟨q0, q1, -, -⟩ := HKA.out.two
    clear HP
    go_wp2_with fail
    with_reducible refine (cP _ HG.out).mono ?_
    rintro e w7 ⟨rfl, hb⟩
    replace HG := Lib.hid (LaidT.keep HG.out hb)
    replace HB := Lib.hid (bstep HB.out hb (Nat.le_refl _))
    replace HOA := Lib.hid (HOA.out.keep hb (Nat.le_refl _))
    replace HOB := Lib.hid (HOB.out.keep hb (Nat.le_refl _))
    replace HKA := Lib.hid (HKA.out.keep hb (Nat.le_refl _))
    clear hb q0 q1
    go_wp2_with fail
    with_reducible refine (cP _ HG.out).mono ?_
    rintro e w8 ⟨rfl, hb⟩
    replace HB := Lib.hid (bstep HB.out hb (Nat.le_refl _))
    replace HOA := Lib.hid (HOA.out.keep hb (Nat.le_refl _))
    replace HOB := Lib.hid (HOB.out.keep hb (Nat.le_refl _))
    replace HKA := Lib.hid (HKA.out.keep hb (Nat.le_refl _))
    obtain ⟨q0, q1, -, -⟩ := HKA.out.two
    clear hb cP
    go_wp2_with fail
    with_reducible refine (apart2_any w.heap.size l HL.out _ _ rfl rfl _ _ _ _ _ HB.out.size HOA.out HOB.out HAB.out).mono ?_
    rintro e w9 ⟨rfl, hb⟩
    have HBF := Lib.hid (HB.out.trans hb)
    clear hb
    go_wp2_with fail
    go_ret
    exact ⟨rfl, HBF.out⟩
  · obtain ⟨q0, q1, -, -⟩ := HKA.out.two
    have hL0 : (L == 0) = false := by rw [beq_eq_false_iff_ne]; omega
    clear HP
    go_wp2_with fail
    with_reducible refine (cP _ HG.out).mono ?_
    rintro e w7 ⟨rfl, hb⟩
    replace HG := Lib.hid (LaidT.keep HG.out hb)
    replace HB := Lib.hid (bstep HB.out hb (Nat.le_refl _))
    replace HOA := Lib.hid (HOA.out.keep hb (Nat.le_refl _))
    replace HOB := Lib.hid (HOB.out.keep hb (Nat.le_refl _))
    replace HKA := Lib.hid (HKA.out.keep hb (Nat.le_refl _))
    clear q0 q1
    obtain ⟨q0, q1, -, -⟩ := HKA.out.two
    clear hb
    go_wp2_with fail
    with_reducible refine (cP _ HG.out).mono ?_
    rintro e w8 ⟨rfl, hb⟩
    replace HB := Lib.hid (bstep HB.out hb (Nat.le_refl _))
    replace HOA := Lib.hid (HOA.out.keep hb (Nat.le_refl _))
    replace HOB := Lib.hid (HOB.out.keep hb (Nat.le_refl _))
    clear hb cP
    go_wp2_with fail
    with_reducible refine (apart2_any w.heap.size l HL.out _ _ rfl rfl _ _ _ _ _ HB.out.size HOA.out HOB.out HAB.out).mono ?_
    rintro e w9 ⟨rfl, hb⟩
    have HBF := Lib.hid (HB.out.trans hb)
    clear hb
    go_wp2_with fail
    go_ret
    exact ⟨rfl, HBF.out⟩
theorem lexscans_str (s : ByteArray) (hs : s.size ≤ 9223372036854775807) (w : World) (hT : TabsU w) (hg : LaidT w) :
    Calls Tryd.prog 3 #[.string s] w fun e w' => e = .returned (.bool true) ∧ Below w.heap.size w w' := by
  have e : (⟨s.data.toList.toArray⟩ : ByteArray) = s := by cases s; simp
  have h := lexscans_any s.data.toList (by rw [Array.length_toList]; exact hs) w hT hg
  rw [e] at h
  exact h
end Go.Proofs.YtmifjfohanegiaaDoor

namespace Go.Proofs.YtmifjfohanegiaaDoor.lexScans
set_option linter.unusedVariables false
open Go.ChangeShapes Go.WideShapes Go.ChangeAt Go.RowKit

abbrev laidL : List (String × DataW Unit) := [("unicode/utf8.acceptRanges", Rows.laid_unicode_utf8_acceptRanges), ("errors.errorType", Rows.laid_errors_errorType), ("unicode/utf8.first", Rows.laid_unicode_utf8_first)]
abbrev laidD : List (String × DataW Unit) := [("unicode/utf8.acceptRanges", Rows.laid_unicode_utf8_acceptRanges), ("unicode/utf8.first", Rows.laid_unicode_utf8_first)]
abbrev laidE : List (String × DataW Unit) := [("errors.errorType", Rows.laid_errors_errorType)]
noncomputable def laidB (os : Os) : World :=
  let w0 := World.holding Tryd.prog os ⟨#[], #[], []⟩
  { w0 with heap := w0.heap.modify 0 fun
      | .cells _ t frozen => .cells #[.iface 100 (.agg #[.pointer (some ⟨4, 24, none⟩)])] t frozen
      | o => o }
noncomputable def laidW (os : Os) : World := (laidB os).layVars Tryd.prog laidD
theorem laidW_os (os : Os) : (laidW os).os = os := by unfold laidW; rw [World.layVars_os]; rfl
theorem laidD_met (os : Os) : laidMet Tryd.prog laidD (laidW os) := by
  have e1 : (laidD.filter fun x => (laidD.map (·.1)).contains x.1) = laidD := List.filter_eq_self.2 fun x hx => List.contains_iff_mem.2 (List.mem_map.2 ⟨x, hx, rfl⟩)
  have e2 : (laidD.filter fun x => !(laidD.map (·.1)).contains x.1) = [] := List.filter_eq_nil_iff.2 fun x hx => by rw [List.contains_iff_mem.2 (List.mem_map.2 ⟨x, hx, rfl⟩)]; simp
  exact laidMet_layVars (w0 := laidB os) (laidD.map (·.1)) [] (by rw [e1]; rfl) (by rw [e1]; kernel_rfl) (by rw [e1]; kernel_rfl) (by rw [e2]; exact LaidIn.none)
theorem laidD_met' (os : Os) (args : Array Value) : laidMet Tryd.prog laidD ((laidW os).forCall (fun _ _ => 0) ⟨#[], args, []⟩).memory :=
  (laidD_met os).of_heap (by simp [World.memory, World.forCall, Input.heap])
theorem laidW_met (os : Os) (args : Array Value) : laidMetH Tryd.prog laidL ((laidW os).forCall (fun _ _ => 0) ⟨#[], args, []⟩).memory :=
  laidMetH_of_parts (laidD_met' os args) (by kernel_rfl)
theorem laidD_of {W : World} (h : laidMetH Tryd.prog laidL W) : laidMet Tryd.prog laidD W ∧ handlesMet Tryd.prog laidE W := h
theorem perr_global : Tryd.prog.globalNamed "errors.errorType" = some 0 := by kernel_rfl
theorem perr_rt : (Tryd.prog.cutTypes.find? (·.1 == "internal/reflectlite.rtype")).map (·.2) = some 100 := by kernel_rfl
theorem perr_row : ((List.range Tryd.prog.types.size).filter fun t => Tryd.prog.rowNamed t [101, 114, 114, 111, 114]) = [24] := by kernel_rfl
theorem perr_handle : typeHandle Tryd.prog 24 = .pointer (some ⟨4, 24, none⟩) := by kernel_rfl
theorem laidT_ofH {W : World} (h0 : laidMetH Tryd.prog laidL W) : LaidT W := by
  have h := (laidD_of h0).2
  obtain ⟨name, u, ty, e1, e2, e3, e4, e5⟩ := h _ (List.mem_singleton.2 rfl)
  have en : name = [101, 114, 114, 111, 114] := (Option.some.inj e1).symm
  subst en
  obtain rfl := Option.some.inj (perr_rt.symm.trans e2)
  have hm : ty ∈ (List.range Tryd.prog.types.size).filter fun t => Tryd.prog.rowNamed t [101, 114, 114, 111, 114] := List.mem_filter.2 ⟨List.mem_range.2 e3, e4⟩
  rw [perr_row] at hm
  obtain rfl := List.mem_singleton.1 hm
  rw [perr_handle] at e5
  simpa [LaidT] using World.var?_cell perr_global e5 0
theorem laidMet_ofH {W : World} (h0 : laidMetH Tryd.prog laidL W) : laidMet Tryd.prog laidD W := (laidD_of h0).1
theorem gFirst : Tryd.prog.globalNamed "unicode/utf8.first" = some 2 := by kernel_rfl
theorem gAcc : Tryd.prog.globalNamed "unicode/utf8.acceptRanges" = some 3 := by kernel_rfl
theorem tFirst : (Tryd.prog.globals[2]?).map (·.type) = some 128 := by kernel_rfl
theorem tAcc : (Tryd.prog.globals[3]?).map (·.type) = some 131 := by kernel_rfl
theorem c8 : Tryd.prog.cellsOf 5 = 1 := by kernel_rfl
theorem cF : Tryd.prog.cellsOf 128 = 256 := by kernel_rfl
theorem cR : Tryd.prog.cellsOf 130 = 2 := by kernel_rfl
theorem eFirst : Rows.laid_unicode_utf8_first = Lib.firstData := by kernel_rfl
theorem eAcc : Rows.laid_unicode_utf8_acceptRanges = Lib.acceptData := by kernel_rfl
theorem tabsU_ofH {W : World} (h0 : laidMetH Tryd.prog laidL W) : TabsU W := by
  have hL := laidMet_ofH h0
  have r1 : Lib.VarReads Tryd.prog W "unicode/utf8.first" Rows.laid_unicode_utf8_first := Lib.laidMet.reads hL (.tail _ (.head _))
  rw [eFirst] at r1
  have r2 : Lib.VarReads Tryd.prog W "unicode/utf8.acceptRanges" Rows.laid_unicode_utf8_acceptRanges := Lib.laidMet.reads hL (.head _)
  rw [eAcc] at r2
  constructor
  · intro c hc
    obtain ⟨g, t, cs, fuel, p, hg, hty, hvar, hd⟩ := r1
    obtain rfl : 2 = g := Option.some.inj (gFirst.symm.trans hg)
    obtain rfl : 128 = t := Option.some.inj (tFirst.symm.trans hty)
    have hcs := Lib.cells_of_tab Tryd.underlying128 Tryd.underlying5 c8 cF hd
    rw [World.var?_cell hg hvar c, ← Array.getElem?_toList, hcs]
    simp [Lib.firstTab, hc]
  · intro i hi
    obtain ⟨g, t, cs, fuel, p, hg, hty, hvar, hd⟩ := r2
    obtain rfl : 3 = g := Option.some.inj (gAcc.symm.trans hg)
    obtain rfl : 131 = t := Option.some.inj (tAcc.symm.trans hty)
    obtain ⟨fu, d, q, h1, h2⟩ := Lib.array_elem Tryd.underlying131 hd i hi
    rw [List.getElem?_map, List.getElem?_range hi] at h1
    obtain rfl := Option.some.inj h1
    rw [cR] at h2
    have hz := Lib.ints_of_struct (k := .u8) Tryd.underlying130 (fun j f hj => by
      rcases j with _ | _ | j
      · simp at hj; subst hj; exact ⟨Tryd.underlying5, rfl, c8⟩
      · simp at hj; subst hj; exact ⟨Tryd.underlying5, rfl, c8⟩
      · simp at hj) cR h2
    have z0 := congrArg (·[0]?) hz
    have z1 := congrArg (·[1]?) hz
    simp only [List.getElem?_take, List.getElem?_drop] at z0 z1
    exact ⟨by rw [World.var?_cell hg hvar (2 * i), ← Array.getElem?_toList]; simpa [Nat.mul_comm] using z0, by rw [World.var?_cell hg hvar (2 * i + 1), ← Array.getElem?_toList]; simpa [Nat.mul_comm] using z1⟩
end Go.Proofs.YtmifjfohanegiaaDoor.lexScans
