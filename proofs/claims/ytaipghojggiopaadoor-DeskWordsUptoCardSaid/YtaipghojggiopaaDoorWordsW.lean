/-
  The walk of DeskWords.
-/
import Derived.Test.YtaipghojggiopaaDoorRefV
import Derived.Test.YtaipghojggiopaaDoorFaultA
import Derived.Test.YtaipghojggiopaaDoorApartText
namespace Go.Proofs.YtaipghojggiopaaDoor
set_option linter.unusedVariables false
open Go.RowKit

theorem wordsN_len (n : Nat) (acc : List (List UInt8)) (s : List UInt8) (ws : List (List UInt8)) (h : wordsN n acc s = some ws) : ws.length ≤ acc.length + s.length := by
  induction n generalizing acc s with
  | zero => simp [wordsN] at h
  | succ n ih =>
    unfold wordsN at h
    split at h
    · cases h; omega
    · rename_i c r
      split at h
      · have := ih _ _ h; simp; omega
      · split at h
        · cases h; omega
        · split at h
          · split at h
            · cases h
            · rename_i w rest hu
              have := unqN_len _ _ _ _ hu
              cases rest with
              | nil =>
                simp at h
                have := ih _ _ h
                simp at this ⊢
                omega
              | cons d s1 =>
                simp at h
                have := ih _ _ h.2
                simp at this ⊢
                simp at *
                omega
          · rename_i hb _ _
            have := ih _ _ h
            have hl : ((c :: r).dropWhile (fun x => !blankB x)).length ≤ r.length := by
              rw [List.dropWhile_cons]
              split
              · exact dropWhile_le _ _
              · simp_all
            simp only [List.length_append, List.length_cons, List.length_nil] at this ⊢
            omega

set_option maxRecDepth 100000 in
set_option maxHeartbeats 1000000 in
theorem plain_fault (s : ByteArray) (m : Int) (h1 : 1 ≤ m) (h2 : m ≤ 26) (w : World) (hg : LaidT w) : Calls Tryd.prog 16 #[.iface 86 (.agg #[.string s, .int .i64 m]), .int .i64 m] w fun e w' => e = .returned (.bool true) ∧ Below w.heap.size w w' := by
  have c1 := num_fault s m h1 h2
  have HB0 := Lib.hid ((Below.refl w.heap.size w).alloc (Nat.le_refl _) (.cells #[.int .i64 0, .int .i64 0, .int .i64 0] 76))
  have HG := Lib.hid (LaidT.keep hg HB0.out)
  clear hg
  go_enter Tryd.func16, Tryd.ntmps16
  go_wp2_with fail
  with_reducible refine (c1 _).mono ?_
  rintro e w1 ⟨rfl, hb⟩
  have HG1 := Lib.hid (LaidT.keep HG.out hb)
  have HB1 := Lib.hid (bstep HB0.out hb (Nat.le_refl _))
  clear hb
  go_wp2_with fail
  with_reducible refine (as_fault s m _ _ ?_).mono ?_
  · exact HG1.out
  rintro e w2 ⟨rfl, hb⟩
  have HB := Lib.hid (bstep HB1.out hb (Nat.le_refl _))
  clear hb
  go_wp2_with fail
  go_ret
  exact ⟨by simp, HB.out⟩

/-- the program's answer and the reference's -/
theorem words_form (L : List UInt8) (hL : L.length ≤ 1048576) : ∃ (ws : List (List UInt8)) (err : Value) (k : Int), ws.length ≤ 1048576 ∧
    (∀ w', LaidT w' → Calls Tryd.prog 16 #[err, .int .i64 k] w' fun e w'' => e = .returned (.bool true) ∧ Below w'.heap.size w' w'') ∧
    (∀ w, Calls Tryd.prog 18 #[.string ⟨L.toArray⟩] w fun e w' => ∃ v, e = .returned (.tuple #[v, err]) ∧ Below w.heap.size w w' ∧ Owns w' w.heap.size 9 1 enStrL v ws) ∧
    (∀ w, Calls Tryd.prog 17 #[.string ⟨L.toArray⟩] w fun e w' => ∃ v, e = .returned (.tuple #[v, .int .i64 k]) ∧ Below w.heap.size w w' ∧ Owns w' w.heap.size 9 1 enStrL v ws) := by
  have c1 := words_any L (by omega)
  have c2 := refwords_any L (by omega)
  cases hw : wordsOf L with
  | none =>
    refine ⟨[], faultV, 6, by simp, fun w' hg => plain_fault _ 6 (by omega) (by omega) w' hg, fun w => (c1 w).mono ?_, fun w => (c2 w).mono ?_⟩
    · rintro e w' ⟨v, err, rfl, hb, hp⟩
      rw [hw] at hp
      obtain ⟨rfl, rfl⟩ := hp
      exact ⟨_, rfl, hb, Owns.nil _ _ _ _ _⟩
    · rintro e w' ⟨v, err, rfl, hb, hp⟩
      rw [hw] at hp
      obtain ⟨rfl, rfl⟩ := hp
      exact ⟨_, rfl, hb, Owns.nil _ _ _ _ _⟩
  | some ws =>
    refine ⟨ws, .nilIface, 0, by have := wordsN_len _ _ _ _ hw; simp at this; omega, fun w' hg => by simpa using plain_nil 0 w', fun w => (c1 w).mono ?_, fun w => (c2 w).mono ?_⟩
    · rintro e w' ⟨v, err, rfl, hb, hp⟩
      rw [hw] at hp
      obtain ⟨rfl, hp⟩ := hp
      exact ⟨_, rfl, hb, hp⟩
    · rintro e w' ⟨v, err, rfl, hb, hp⟩
      rw [hw] at hp
      obtain ⟨rfl, hp⟩ := hp
      exact ⟨_, rfl, hb, hp⟩

set_option maxRecDepth 100000 in
set_option maxHeartbeats 4000000 in
theorem deskwords_any (L M : List UInt8) (hL : L.length ≤ 1048576) (hM : M.length ≤ 1048576) (w : World) (hg : LaidT w) :
    Calls Tryd.prog 5 #[.string ⟨L.toArray⟩, .string ⟨M.toArray⟩] w fun e w' => e = .returned (.bool true) ∧ Below w.heap.size w w' := by
  obtain ⟨l, er, kr, hl, cP, cW, cR⟩ := words_form L hL
  obtain ⟨m, es, ks, hm, dP, dW, dR⟩ := words_form M hM
  have HG := Lib.hid hg
  clear hg
  go_enter Tryd.func5, Tryd.ntmps5
  go_wp2_with fail
  with_reducible refine (cR _).mono ?_
  rintro e w1 ⟨vu, rfl, hb, hou⟩
  replace HG := Lib.hid (LaidT.keep HG.out hb)
  have HB := Lib.hid hb
  have hs1 := hb.size
  have hmu := fun k h => (hou.lt k h).2
  clear hb
  go_wp2_with fail
  with_reducible refine (dR _).mono ?_
  rintro e w2 ⟨vx, rfl, hb, hox⟩
  replace HG := Lib.hid (LaidT.keep HG.out hb)
  replace HB := Lib.hid (bstep HB.out hb (Nat.le_refl _))
  have hs2 := hb.size
  replace hou := hou.keep hb (Nat.le_refl _)
  have hnx := fun k h => (hox.lt k h).1
  replace hox := hox.fromBase (show w.heap.size ≤ w1.heap.size by omega)
  have hmx := fun k h => (hox.lt k h).2
  clear hb
  go_wp2_with fail
  with_reducible refine (cW _).mono ?_
  rintro e w3 ⟨va, rfl, hb, hoa⟩
  replace HG := Lib.hid (LaidT.keep HG.out hb)
  replace HB := Lib.hid (bstep HB.out hb (Nat.le_refl _))
  have hs3 := hb.size
  replace hou := hou.keep hb (Nat.le_refl _)
  replace hox := hox.keep hb (Nat.le_refl _)
  have hna := fun k h => (hoa.lt k h).1
  replace hoa := hoa.fromBase (show w.heap.size ≤ w2.heap.size by omega)
  have hma := fun k h => (hoa.lt k h).2
  clear hb
  go_wp2_with fail
  with_reducible refine (dW _).mono ?_
  rintro e w4 ⟨vb, rfl, hb, hob⟩
  replace HG := Lib.hid (LaidT.keep HG.out hb)
  replace HB := Lib.hid (bstep HB.out hb (Nat.le_refl _))
  have hs4 := hb.size
  replace hou := hou.keep hb (Nat.le_refl _)
  replace hox := hox.keep hb (Nat.le_refl _)
  replace hoa := hoa.keep hb (Nat.le_refl _)
  have hnb := fun k h => (hob.lt k h).1
  replace hob := hob.fromBase (show w.heap.size ≤ w3.heap.size by omega)
  have hmb := fun k h => (hob.lt k h).2
  clear hb
  go_wp2_with fail
  with_reducible refine (cW _).mono ?_
  rintro e w5 ⟨vc, rfl, hb, hoc⟩
  replace HG := Lib.hid (LaidT.keep HG.out hb)
  replace HB := Lib.hid (bstep HB.out hb (Nat.le_refl _))
  have hs5 := hb.size
  replace hou := hou.keep hb (Nat.le_refl _)
  replace hox := hox.keep hb (Nat.le_refl _)
  replace hoa := hoa.keep hb (Nat.le_refl _)
  replace hob := hob.keep hb (Nat.le_refl _)
  have hnc := fun k h => (hoc.lt k h).1
  replace hoc := hoc.fromBase (show w.heap.size ≤ w4.heap.size by omega)
  have hmc := fun k h => (hoc.lt k h).2
  clear hb
  go_wp2_with fail
  have hab : Apart va vb := fun k h1 h2 => by have := hma k h1; have := hnb k h2; omega
  have hac : Apart va vc := fun k h1 h2 => by have := hma k h1; have := hnc k h2; omega
  have hbc : Apart vb vc := fun k h1 h2 => by have := hmb k h1; have := hnc k h2; omega
  with_reducible refine (cP _ HG.out).mono ?_
  rintro e w6 ⟨rfl, hb⟩
  replace HG := Lib.hid (LaidT.keep HG.out hb)
  replace HB := Lib.hid (bstep HB.out hb (Nat.le_refl _))
  replace hou := hou.keep hb (Nat.le_refl _)
  replace hox := hox.keep hb (Nat.le_refl _)
  replace hoa := hoa.keep hb (Nat.le_refl _)
  replace hob := hob.keep hb (Nat.le_refl _)
  replace hoc := hoc.keep hb (Nat.le_refl _)
  clear hb
  go_wp2_with fail
  with_reducible refine (dP _ HG.out).mono ?_
  rintro e w7 ⟨rfl, hb⟩
  replace HG := Lib.hid (LaidT.keep HG.out hb)
  replace HB := Lib.hid (bstep HB.out hb (Nat.le_refl _))
  replace hou := hou.keep hb (Nat.le_refl _)
  replace hox := hox.keep hb (Nat.le_refl _)
  replace hoa := hoa.keep hb (Nat.le_refl _)
  replace hob := hob.keep hb (Nat.le_refl _)
  replace hoc := hoc.keep hb (Nat.le_refl _)
  clear hb
  go_wp2_with fail
  with_reducible refine (cP _ HG.out).mono ?_
  rintro e w8 ⟨rfl, hb⟩
  replace HG := Lib.hid (LaidT.keep HG.out hb)
  replace HB := Lib.hid (bstep HB.out hb (Nat.le_refl _))
  replace hou := hou.keep hb (Nat.le_refl _)
  replace hox := hox.keep hb (Nat.le_refl _)
  replace hoa := hoa.keep hb (Nat.le_refl _)
  replace hob := hob.keep hb (Nat.le_refl _)
  replace hoc := hoc.keep hb (Nat.le_refl _)
  clear hb
  go_wp2_with fail
  obtain ⟨au, cu, rfl, hsu⟩ := hou.shape
  obtain ⟨ax, cx, rfl, hsx⟩ := hox.shape
  obtain ⟨aa, ca, rfl, hsa⟩ := hoa.shape
  obtain ⟨ab, cb, rfl, hsb⟩ := hob.shape
  obtain ⟨ac, cc, rfl, hsc⟩ := hoc.shape
  with_reducible refine (sameTexts_any l _ _ rfl rfl _ _ _ _ _ (hoa.sl.2) (hou.sl.2)).mono ?_
  rintro e w9 ⟨rfl, hb⟩
  replace HB := Lib.hid (bstep HB.out hb (Nat.le_refl _))
  replace hou := hou.keep hb (Nat.le_refl _)
  replace hox := hox.keep hb (Nat.le_refl _)
  replace hoa := hoa.keep hb (Nat.le_refl _)
  replace hob := hob.keep hb (Nat.le_refl _)
  replace hoc := hoc.keep hb (Nat.le_refl _)
  clear hb
  go_wp2_with fail
  with_reducible refine (sameTexts_any m _ _ rfl rfl _ _ _ _ _ (hob.sl.2) (hox.sl.2)).mono ?_
  rintro e w10 ⟨rfl, hb⟩
  replace HB := Lib.hid (bstep HB.out hb (Nat.le_refl _))
  replace hou := hou.keep hb (Nat.le_refl _)
  replace hox := hox.keep hb (Nat.le_refl _)
  replace hoa := hoa.keep hb (Nat.le_refl _)
  replace hob := hob.keep hb (Nat.le_refl _)
  replace hoc := hoc.keep hb (Nat.le_refl _)
  clear hb
  go_wp2_with fail
  with_reducible refine (sameTexts_any l _ _ rfl rfl _ _ _ _ _ (hoc.sl.2) (hou.sl.2)).mono ?_
  rintro e w11 ⟨rfl, hb⟩
  replace HB := Lib.hid (bstep HB.out hb (Nat.le_refl _))
  replace hou := hou.keep hb (Nat.le_refl _)
  replace hox := hox.keep hb (Nat.le_refl _)
  replace hoa := hoa.keep hb (Nat.le_refl _)
  replace hob := hob.keep hb (Nat.le_refl _)
  replace hoc := hoc.keep hb (Nat.le_refl _)
  clear hb
  go_wp2_with fail
  have hsz := HB.out.size
  have hnew : Below w11.heap.size w11 (w11.alloc (.cells #[.slice aa l.length ca, .slice ab m.length cb, .slice ac l.length cc] 43)) := (Below.refl _ _).alloc (Nat.le_refl _) _
  have hlist : Owns (w11.alloc (.cells #[.slice aa l.length ca, .slice ab m.length cb, .slice ac l.length cc] 43)) w.heap.size 43 1 enV (.slice (some ⟨w11.heap.size, 0, none⟩) 3 3) ((List.range 3).map (fun j => if j = 0 then .slice aa l.length ca else if j = 1 then .slice ab m.length cb else .slice ac l.length cc)) :=
    Owns.lit w11 w.heap.size enV 1 (fun _ => rfl) _ _ _ 3 rfl rfl (by decide) hsz
  replace hoa := hoa.keep hnew (Nat.le_refl _)
  replace hob := hob.keep hnew (Nat.le_refl _)
  replace hoc := hoc.keep hnew (Nat.le_refl _)
  replace HB := Lib.hid (bstep HB.out hnew (Nat.le_refl _))
  clear hnew
  have hsz7 : w.heap.size ≤ (w11.alloc (.cells #[.slice aa l.length ca, .slice ab m.length cb, .slice ac l.length cc] 43)).heap.size := by simp; omega
  generalize w11.alloc (.cells #[.slice aa l.length ca, .slice ab m.length cb, .slice ac l.length cc] 43) = w12 at *
  refine (apartTexts_any w.heap.size 3 (fun j => if j = 0 then .slice aa l.length ca else if j = 1 then .slice ab m.length cb else .slice ac l.length cc) (fun j => if j = 1 then m else l) _ _ _ (by omega) hsz7 ?_ ?_ hlist ?_).mono ?_
  · intro j hj
    rcases (show j = 0 ∨ j = 1 ∨ j = 2 by omega) with rfl | rfl | rfl
    · exact hoa
    · exact hob
    · exact hoc
  · intro i j hi hj hij
    rcases (show i = 0 ∨ i = 1 ∨ i = 2 by omega) with rfl | rfl | rfl <;> rcases (show j = 0 ∨ j = 1 ∨ j = 2 by omega) with rfl | rfl | rfl
    · omega
    · exact hab
    · exact hac
    · exact hab.symm
    · omega
    · exact hbc
    · exact hac.symm
    · exact hbc.symm
    · omega
  · intro j hj
    show ((if j = 1 then m else l).length + 64) * 16 ≤ 140737488355328
    split <;> omega
  rintro e w13 ⟨rfl, hb⟩
  replace HB := Lib.hid (HB.out.trans hb)
  clear hb hlist hoa hob hoc hab hac hbc
  go_wp2_with fail
  go_ret
  exact ⟨rfl, HB.out⟩
theorem deskwords_any' (s0 s1 : ByteArray) (h0 : s0.data.toList.length ≤ 1048576) (h1 : s1.data.toList.length ≤ 1048576) (w : World) (hg : LaidT w) :
    Calls Tryd.prog 5 #[.string s0, .string s1] w fun e w' => e = .returned (.bool true) ∧ Below w.heap.size w w' := deskwords_any s0.data.toList s1.data.toList h0 h1 w hg
end Go.Proofs.YtaipghojggiopaaDoor
