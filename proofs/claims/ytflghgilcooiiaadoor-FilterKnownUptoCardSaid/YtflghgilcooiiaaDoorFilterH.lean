/-
  The walk of FilterSame.
-/
import Derived.Test.YtflghgilcooiiaaDoorFilterG
import Derived.Test.YtflghgilcooiiaaDoorFilterN
namespace Go.Proofs.YtflghgilcooiiaaDoor
set_option linter.unusedVariables false
open Go.RowKit

theorem frameId_lt (id : Nat) (hid : id < 4294967296) (wide : Bool) : frameId id wide < 4294967296 := Nat.lt_of_le_of_lt Nat.and_le_left hid
theorem frameId_in (id : Nat) (wide : Bool) : frameId id wide &&& idsN wide = frameId id wide := by
  unfold frameId
  rw [Nat.and_assoc, Nat.and_self]

set_option maxRecDepth 100000 in
set_option maxHeartbeats 2000000 in
theorem filterSame_walk (l : List RuleD) (hl : ∀ r ∈ l, okRule r) (a : Option Addr) (cap : Nat) (id : Nat) (hid : id < 4294967296) (wide : Bool) (w : World) (hno : NoneAt w) (hs : SlR w a cap l) (hr : l.length * 12 ≤ 140737488351232) :
    Calls Tryd.prog 4 #[.slice a l.length cap, .int .u32 id, .bool wide] w fun e w' => e = .returned (.bool true) ∧ Below w.heap.size w w' := by
  have hp := hno.pos
  have h1 := hs.len
  have HL := Lib.hid hl
  have HLE := Lib.hid (less_ok l hl)
  have hlt := less_takes l hl wide (frameId id wide) (frameId_lt id hid wide) (frameId_in id wide)
  have hln := less_nil l
  clear hl
  by_cases hbig : (400 : Int) < l.length
  · go_enter Tryd.func4, Tryd.ntmps4
    go_wp2_with fail
    refine (works_any _ hno).mono ?_
    rintro e w1 ⟨rfl, hb1⟩
    go_wp2_with fail
    go_ret
    exact ⟨rfl, hb1⟩
  · go_enter Tryd.func4, Tryd.ntmps4
    go_wp2_with fail
    refine (frame_any id hid wide _).mono ?_
    rintro e w1 ⟨rfl, hb1⟩
    have hfl := frameId_lt id hid wide
    generalize frameId id wide = fid at *
    go_wp2_with fail
    have hb2 := hb1.alloc hb1.size (.cells #[.int .u32 fid, .bool wide, .slice none 0 0] 32)
    have hc0 : (w1.alloc (.cells #[.int .u32 fid, .bool wide, .slice none 0 0] 32)).cell? ⟨w1.heap.size, 0, none⟩ = some (.int .u32 fid) := by go_simp
    have hc1 : (w1.alloc (.cells #[.int .u32 fid, .bool wide, .slice none 0 0] 32)).cell? ⟨w1.heap.size, 1, none⟩ = some (.bool wide) := by go_simp
    have hc2 : (w1.alloc (.cells #[.int .u32 fid, .bool wide, .slice none 0 0] 32)).cell? ⟨w1.heap.size, 2, none⟩ = some (.slice none 0 0) := by go_simp
    generalize w1.alloc (.cells #[.int .u32 fid, .bool wide, .slice none 0 0] 32) = w2 at *
    refine (less_any l HL.out _ rfl _ _ _ (hno.keep hb2 hp) (hs.keep hb2 (Nat.le_refl _)) hr).mono ?_
    rintro e w3 ⟨v, rfl, hb3, ho⟩
    have hb4 := bstep hb2 hb3 (Nat.le_refl _)
    have hd0 := cell_keep' hc0 hb3
    have hd1 := cell_keep' hc1 hb3
    have hd2 := cell_keep' hc2 hb3
    obtain ⟨am, cm, rfl, hm⟩ := ho.shape
    have hs3 := hs.keep hb4 (Nat.le_refl _)
    have hn3 := hno.keep hb4 hp
    have hml := hm.len
    have hlen : (lessN l).length ≤ l.length := less_le l
    have hez : (((lessN l).length : Int) == 0) = ((l.length : Int) == 0) := by rw [Bool.eq_iff_iff, beq_iff_eq, beq_iff_eq]; omega
    clear hc0 hc1 hc2 ho hb1 hb2 hb3 hln
    generalize lessN l = m at *
    go_wp2_with fail
    have hb6 : Below w3.heap.size w3 w3 := Below.refl _ _
    have HN := Lib.hid hn3
    have HM := Lib.hid hm
    have HS := Lib.hid hs3
    have hp3 : 0 < w3.heap.size := hn3.pos
    obtain ⟨tk, htk⟩ : ∃ t, takesN l wide fid = t := ⟨_, rfl⟩
    rw [htk] at hlt
    have HT1 := Lib.hid htk
    have HT2 := Lib.hid hlt
    clear hn3 hm hs3 hs hno htk hlt
    have hz0 : ((m.length : Int) == 0) = (m.length == 0) := by rw [Bool.eq_iff_iff, beq_iff_eq, beq_iff_eq]; omega
    have hz1 : ((l.length : Int) == 0) = (m.length == 0) := hez.symm.trans hz0
    clear hez
    generalize (m.length == 0) = z at *
    cases tk <;> cases z
    all_goals
      go_region_held3 (fun w' => Below w3.heap.size w3 w' ∧ w'.cell? ⟨w1.heap.size, 0, none⟩ = some (.int .u32 fid) ∧ w'.cell? ⟨w1.heap.size, 1, none⟩ = some (.bool wide) ∧ w'.cell? ⟨w1.heap.size, 2, none⟩ = some (.slice none 0 0))
        (first
          | (have hh := ‹Below w3.heap.size w3 _ ∧ _›; exact ⟨bstep hh.1 (by assumption) (Nat.le_refl _), cell_keep' hh.2.1 (by assumption), cell_keep' hh.2.2.1 (by assumption), cell_keep' hh.2.2.2 (by assumption)⟩)
          | exact ⟨hb6.drew, hd0, hd1, hd2⟩
          | assumption)
        (first
          | (go_at_call 14; have hcur := And.left ‹Below w3.heap.size w3 _ ∧ _›; refine (works_any _ (NoneAt.keep HN.out hcur hp3)).mono ?_; rintro e w' ⟨rfl, hb'⟩; clear hcur)
          | (go_at_call 16; have hcur := And.left ‹Below w3.heap.size w3 _ ∧ _›; with_reducible refine (takes_any l HL.out _ rfl _ _ fid hfl wide _ _ (SlOf.keep HS.out hcur (Nat.le_refl _))).mono ?_; rintro e w' ⟨rfl, hb'⟩; rw [HT1.out]; clear hcur)
          | (go_at_call 16; have hcur := And.left ‹Below w3.heap.size w3 _ ∧ _›; with_reducible refine (takes_any m HLE.out _ rfl _ _ fid hfl wide _ _ (SlOf.keep HM.out hcur (Nat.le_refl _))).mono ?_; rintro e w' ⟨rfl, hb'⟩; rw [HT2.out]; clear hcur))
      all_goals go_wp2_with fail
      all_goals go_ret
      all_goals exact ⟨rfl, bstep (bstep (bstep hb4.drew (by assumption) (Nat.le_refl _)) (by assumption) (Nat.le_refl _)) (by assumption) (Nat.le_refl _)⟩
end Go.Proofs.YtflghgilcooiiaaDoor
