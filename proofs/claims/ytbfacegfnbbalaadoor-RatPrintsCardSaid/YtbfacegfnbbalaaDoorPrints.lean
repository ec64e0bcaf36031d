/-
  The walk of RatPrints.
-/
import Derived.Test.YtbfacegfnbbalaaDoorTxtR
import Derived.Test.YtbfacegfnbbalaaDoorPlain
namespace Go.Proofs.YtbfacegfnbbalaaDoor
set_option linter.unusedVariables false
open Go.RowKit

/-- the program's answer and the reference's are the same text, and the error is the one whose number is told -/
def SameS (P R : Value) : Prop := ∃ (x : List UInt8) (e : Value) (k : Int), P = .tuple #[.string ⟨x.toArray⟩, e] ∧ R = .tuple #[.string ⟨x.toArray⟩, .int .i64 k] ∧
  (∀ w, LaidT w → Calls Tryd.prog 11 #[e, .int .i64 k] w fun e w' => e = .returned (.bool true) ∧ Below w.heap.size w w')
theorem sameS_print (n d : Int) : SameS (if rightB n d then .tuple #[.string ⟨(printL n d.natAbs).toArray⟩, .nilIface] else .tuple #[.string ⟨#[]⟩, errV 1]) (if rightB n d then .tuple #[.string ⟨(printL n d.natAbs).toArray⟩, .int .i64 0] else .tuple #[.string ⟨#[]⟩, .int .i64 1]) := by
  split
  · exact ⟨_, _, 0, rfl, rfl, fun w hg => by simpa using plain_nil 0 w⟩
  · exact ⟨[], _, 1, rfl, rfl, fun w hg => by simpa using plain_errno 1 1 (by omega) (by omega) w hg⟩

set_option maxRecDepth 100000 in
set_option maxHeartbeats 4000000 in
theorem ratprints_any (n d : Int) (h1 : In64 n) (h2 : In64 d) (w : World) (hp : PowTab w) (hg : LaidT w) :
    Calls Tryd.prog 4 #[.agg #[.int .i64 n, .int .i64 d]] w fun e w' => e = .returned (.bool true) ∧ Below w.heap.size w w' := by
  have c1 := fun w hp => print_any n d h1 h2 w hp
  have c2 := refprint_any n d h1 h2
  obtain ⟨px, pe, pk, e1, e2, pc⟩ := sameS_print n d
  rw [e2] at c2
  simp only [e1] at c1
  clear e1 e2
  obtain ⟨ta, hsz, hbw⟩ := box1 w #[.int .i64 n, .int .i64 d] 35
  have TA := Lib.hid ta
  have HB := Lib.hid hbw
  have HG := Lib.hid (LaidT.keep hg hbw)
  have HP := Lib.hid (hp.keep hbw)
  clear ta hsz hbw hg h1 h2 hp
  obtain ⟨a0, a1, _, _⟩ := TA.out.two
  go_enter Tryd.func4, Tryd.ntmps4
  go_wp2_with fail
  with_reducible refine (c1 _ HP.out).mono ?_
  rintro e w1 ⟨rfl, hb⟩
  replace TA := Lib.hid (TA.out.keep hb (Nat.le_refl _))
  replace HG := Lib.hid (LaidT.keep HG.out hb)
  replace HB := Lib.hid (bstep HB.out hb (Nat.le_refl _))
  clear hb c1 a0 a1 HP
  obtain ⟨a0, a1, _, _⟩ := TA.out.two
  go_wp2_with fail
  with_reducible refine (c2 _).mono ?_
  rintro e w2 ⟨rfl, hb⟩
  replace HG := Lib.hid (LaidT.keep HG.out hb)
  replace HB := Lib.hid (bstep HB.out hb (Nat.le_refl _))
  clear hb c2 a0 a1
  go_wp2_with fail
  with_reducible refine (pc _ HG.out).mono ?_
  rintro e w5 ⟨rfl, hb⟩
  replace HB := Lib.hid (bstep HB.out hb (Nat.le_refl _))
  clear hb
  go_wp2_with fail
  go_ret
  exact ⟨rfl, HB.out⟩
end Go.Proofs.YtbfacegfnbbalaaDoor
