/-
  Contracts of lent frames; the walk of FilterTakes.
-/
import Derived.Test.YtflghgilcooiiaaDoorFilterA
import Derived.Test.YtflghgilcooiiaaDoorListByte
import Derived.Test.YtflghgilcooiiaaDoorBaseB
namespace Go.Proofs.YtflghgilcooiiaaDoor
set_option linter.unusedVariables false
open Go.RowKit

set_option maxHeartbeats 400000 in
theorem lentBytes_n (l : List UInt8) (n : Nat) (hn : n = l.length) (a : Option Addr) (cap : Nat) (w : World) (hs : SlY w a cap l) (hr : l.length * 1 ≤ 140737488351232) :
    Calls Tryd.prog 32 #[.slice a n cap] w fun e w' => ∃ g c, e = .returned (.slice (some ⟨g, 0, none⟩) n c) ∧ Below w.heap.size w w' ∧ w.heap.size ≤ g ∧
      Owns w' w.heap.size 5 1 enByte (.slice (some ⟨g, 0, none⟩) (n + 16) c) (l ++ marksY 16) := by
  subst hn; exact lentBytes_any l a cap w hs hr

set_option maxHeartbeats 1000000 in
theorem lentFrame_any (id : Nat) (wide : Bool) (l : List UInt8) (a : Option Addr) (cap : Nat) (w : World) (hs : SlY w a cap l) (hr : l.length * 1 ≤ 140737488351232) :
    Calls Tryd.prog 29 #[.agg #[.int .u32 id, .bool wide, .slice a l.length cap]] w fun e w' => ∃ g c, e = .returned (.agg #[.int .u32 id, .bool wide, .slice (some ⟨g, 0, none⟩) l.length c]) ∧ Below w.heap.size w w' ∧ w.heap.size ≤ g ∧
      SlY w' (some ⟨g, 0, none⟩) c (l ++ marksY 16) := by
  go_enter Tryd.func29, Tryd.ntmps29
  go_wp2_with fail
  refine (lentBytes_any l a cap _ (((hs.alloc _).alloc _).alloc _) hr).mono ?_
  rintro e w1 ⟨g, c, rfl, hb1, hg, ho1⟩
  simp only [World.size_alloc] at hg hb1
  have hs1 := ho1.sl.2
  have hsz := hb1.size
  simp only [World.size_alloc] at hsz
  have L0 : w.heap.size < w1.heap.size := by omega
  have L1 : w.heap.size + 1 < w1.heap.size := by omega
  have L2 : w.heap.size + 1 + 1 < w1.heap.size := by omega
  have keep : ∀ k j v, k < w.heap.size + 1 + 1 + 1 → (((w.alloc (.cells #[.int .u32 id, .bool wide, .slice a l.length cap] 32)).alloc (.cells #[.int .u32 0, .bool false, .slice none 0 0] 32)).alloc (.cells #[.int .u32 id, .bool wide, .slice a l.length cap] 32)).cell? ⟨k, j, none⟩ = some v → w1.cell? ⟨k, j, none⟩ = some v := by
    intro k j v hk h
    rw [hb1.cell (p := ⟨k, j, none⟩) hk]; exact h
  have keepf : ∀ k j, k < w.heap.size + 1 + 1 + 1 → (((w.alloc (.cells #[.int .u32 id, .bool wide, .slice a l.length cap] 32)).alloc (.cells #[.int .u32 0, .bool false, .slice none 0 0] 32)).alloc (.cells #[.int .u32 id, .bool wide, .slice a l.length cap] 32)).frozen? ⟨k, j, none⟩ = false → w1.frozen? ⟨k, j, none⟩ = false := by
    intro k j hk h
    rw [hb1.frozen (p := ⟨k, j, none⟩) hk]; exact h
  have hc0 := keep (w.heap.size + 1 + 1) 0 (.int .u32 id) (by omega) (by go_simp)
  have hc1 := keep (w.heap.size + 1 + 1) 1 (.bool wide) (by omega) (by go_simp)
  have hc2 := keep (w.heap.size + 1 + 1) 2 (.slice a l.length cap) (by omega) (by go_simp)
  have hd0 := keep (w.heap.size + 1) 0 (.int .u32 0) (by omega) (by go_simp)
  have hd1 := keep (w.heap.size + 1) 1 (.bool false) (by omega) (by go_simp)
  have hd2 := keep (w.heap.size + 1) 2 (.slice none 0 0) (by omega) (by go_simp)
  have hf2 := keepf (w.heap.size + 1 + 1) 2 (by omega) (by go_simp)
  have he0 := keepf (w.heap.size + 1) 0 (by omega) (by go_simp)
  have he1 := keepf (w.heap.size + 1) 1 (by omega) (by go_simp)
  have he2 := keepf (w.heap.size + 1) 2 (by omega) (by go_simp)
  clear keep keepf hs ho1
  go_wp2_with fail
  have hbw : Below w.heap.size w w1 := ((((Below.refl w.heap.size w).alloc (Nat.le_refl _) _).alloc (by simp) _).alloc (by simp; omega) _).trans (hb1.mono (by omega))
  refine bodyPost_ret (v := .agg #[.int .u32 id, .bool wide, .slice (some ⟨g, 0, none⟩) l.length c]) (by simp [results, Tryd.results29, go_sem, hd0, hd1, hd2]) rfl ⟨g, c, rfl, ?_, by omega, ?_⟩
  · exact (((hbw.setCell (by simp; omega) _).setCell (by simp) _).setCell (by simp) _).setCell (by simp) _
  · exact (((hs1.setCell (by simp; omega) _).setCell (by simp; omega) _).setCell (by simp; omega) _).setCell (by simp; omega) _

set_option maxHeartbeats 1000000 in
theorem keptFrame_any (id : Nat) (wide : Bool) (l : List UInt8) (a : Option Addr) (cap g c : Nat) (w : World) (hs : SlY w a cap l) (ho : SlY w (some ⟨g, 0, none⟩) c (l ++ marksY 16)) (hr : l.length * 1 ≤ 140737488351232) :
    Calls Tryd.prog 31 #[.agg #[.int .u32 id, .bool wide, .slice (some ⟨g, 0, none⟩) l.length c], .agg #[.int .u32 id, .bool wide, .slice a l.length cap]] w fun e w' => e = .returned (.bool true) ∧ Below w.heap.size w w' := by
  go_enter Tryd.func31, Tryd.ntmps31
  go_wp2_with fail
  refine (keptBytes_any l a cap g 0 c _ ((hs.alloc _).alloc _) ((ho.alloc _).alloc _) hr).mono ?_
  rintro e w1 ⟨rfl, hb1⟩
  go_wp2_with fail
  go_ret
  exact ⟨rfl, (((Below.refl w.heap.size w).alloc (Nat.le_refl _) _).alloc (by simp) _).trans (hb1.mono (by simp; omega))⟩

set_option maxHeartbeats 2000000 in
theorem filterTakes_walk (l : List RuleD) (hl : ∀ r ∈ l, okRule r) (a : Option Addr) (cap : Nat) (id : Nat) (hid : id < 4294967296) (wide : Bool) (d : List UInt8) (da : Option Addr) (dc : Nat) (w : World) (hs : SlR w a cap l) (hr : l.length * 12 ≤ 140737488351232)
    (hd : SlY w da dc d) (hrd : d.length * 1 ≤ 140737488351232) :
    Calls Tryd.prog 27 #[.slice a l.length cap, .agg #[.int .u32 id, .bool wide, .slice da d.length dc]] w fun e w' => e = .returned (.bool true) ∧ Below w.heap.size w w' := by
  go_enter Tryd.func27, Tryd.ntmps27
  go_wp2_with fail
  refine (lentRules_any l a cap _ (hs.alloc _) hr).mono ?_
  rintro e w1 ⟨g, c, rfl, hb1, hg, ho1⟩
  have hb2 : Below w.heap.size w w1 := ((Below.refl w.heap.size w).alloc (Nat.le_refl _) _).trans (hb1.mono (by simp))
  have hsz1 := hb1.size
  simp only [World.size_alloc] at hsz1
  have hb1' := hb1
  simp only [World.size_alloc] at hb1'
  have hx1 := ho1.sl.2
  have hc0 : w1.cell? ⟨w.heap.size, 0, none⟩ = some (.int .u32 id) := by rw [hb1'.cell (p := ⟨w.heap.size, 0, none⟩) (by simp)]; go_simp
  have hc1 : w1.cell? ⟨w.heap.size, 1, none⟩ = some (.bool wide) := by rw [hb1'.cell (p := ⟨w.heap.size, 1, none⟩) (by simp)]; go_simp
  have hc2 : w1.cell? ⟨w.heap.size, 2, none⟩ = some (.slice da d.length dc) := by rw [hb1'.cell (p := ⟨w.heap.size, 2, none⟩) (by simp)]; go_simp
  clear hb1 hb1' ho1
  go_wp2_with fail
  refine (lentFrame_any id wide d da dc _ (hd.keep hb2 (Nat.le_refl _)) hrd).mono ?_
  rintro e w2 ⟨fg, fc, rfl, hb3, hfg, hy⟩
  have hb4 := bstep hb2 hb3 (Nat.le_refl _)
  have hx2 := hx1.keep hb3 (Nat.le_refl _)
  have hd0 := cell_keep' hc0 hb3
  have hd1 := cell_keep' hc1 hb3
  have hd2 := cell_keep' hc2 hb3
  clear hb2 hb3 hx1 hc0 hc1 hc2
  go_wp2_with fail
  have hb5 : Below w.heap.size w (w2.alloc (.cells #[.int .u32 id, .bool wide, .slice (some ⟨fg, 0, none⟩) d.length fc] 32)) := hb4.alloc hb4.size _
  have hx3 := hx2.alloc (.cells #[.int .u32 id, .bool wide, .slice (some ⟨fg, 0, none⟩) d.length fc] 32)
  have hy3 := hy.alloc (.cells #[.int .u32 id, .bool wide, .slice (some ⟨fg, 0, none⟩) d.length fc] 32)
  have he0 : (w2.alloc (.cells #[.int .u32 id, .bool wide, .slice (some ⟨fg, 0, none⟩) d.length fc] 32)).cell? ⟨w2.heap.size, 0, none⟩ = some (.int .u32 id) := by go_simp
  have he1 : (w2.alloc (.cells #[.int .u32 id, .bool wide, .slice (some ⟨fg, 0, none⟩) d.length fc] 32)).cell? ⟨w2.heap.size, 1, none⟩ = some (.bool wide) := by go_simp
  have he2 : (w2.alloc (.cells #[.int .u32 id, .bool wide, .slice (some ⟨fg, 0, none⟩) d.length fc] 32)).cell? ⟨w2.heap.size, 2, none⟩ = some (.slice (some ⟨fg, 0, none⟩) d.length fc) := by go_simp
  have hL : w.heap.size < w2.heap.size := by have := World.block_lt_of_cell? _ _ hd0; simpa using this
  have hf0 : (w2.alloc (.cells #[.int .u32 id, .bool wide, .slice (some ⟨fg, 0, none⟩) d.length fc] 32)).cell? ⟨w.heap.size, 0, none⟩ = some (.int .u32 id) := by go_simp
  have hf1 : (w2.alloc (.cells #[.int .u32 id, .bool wide, .slice (some ⟨fg, 0, none⟩) d.length fc] 32)).cell? ⟨w.heap.size, 1, none⟩ = some (.bool wide) := by go_simp
  have hf2 : (w2.alloc (.cells #[.int .u32 id, .bool wide, .slice (some ⟨fg, 0, none⟩) d.length fc] 32)).cell? ⟨w.heap.size, 2, none⟩ = some (.slice da d.length dc) := by go_simp
  generalize hW : w2.alloc (.cells #[.int .u32 id, .bool wide, .slice (some ⟨fg, 0, none⟩) d.length fc] 32) = W at *
  clear hW hd0 hd1 hd2 hL hb4 hx2 hy
  have HS := Lib.hid (hs.keep hb5 (Nat.le_refl _))
  have HX := Lib.hid (hx3.pre enRule_len)
  have HX' := Lib.hid hx3
  have HD := Lib.hid (hd.keep hb5 (Nat.le_refl _))
  have HY := Lib.hid hy3
  have hb6 : Below W.heap.size W W := Below.refl _ _
  clear hs hx3 hd hy3
  go_region_held3 (fun w' => Below W.heap.size W w' ∧ w'.cell? ⟨w2.heap.size, 0, none⟩ = some (.int .u32 id) ∧ w'.cell? ⟨w2.heap.size, 1, none⟩ = some (.bool wide) ∧ w'.cell? ⟨w2.heap.size, 2, none⟩ = some (.slice (some ⟨fg, 0, none⟩) d.length fc) ∧
      w'.cell? ⟨w.heap.size, 0, none⟩ = some (.int .u32 id) ∧ w'.cell? ⟨w.heap.size, 1, none⟩ = some (.bool wide) ∧ w'.cell? ⟨w.heap.size, 2, none⟩ = some (.slice da d.length dc))
    (first
      | (have hh := ‹Below W.heap.size W _ ∧ _›; exact ⟨bstep hh.1 (by assumption) (Nat.le_refl _), cell_keep' hh.2.1 (by assumption), cell_keep' hh.2.2.1 (by assumption), cell_keep' hh.2.2.2.1 (by assumption), cell_keep' hh.2.2.2.2.1 (by assumption), cell_keep' hh.2.2.2.2.2.1 (by assumption), cell_keep' hh.2.2.2.2.2.2 (by assumption)⟩)
      | exact ⟨hb6.drew, he0, he1, he2, hf0, hf1, hf2⟩
      | assumption)
    (first
      | (go_at_call 16; have hcur := And.left ‹Below W.heap.size W _ ∧ _›; refine (takes_any l hl _ rfl _ _ id hid wide _ _ (SlOf.keep HX.out hcur (Nat.le_refl _))).mono ?_; rintro e w' ⟨rfl, hb'⟩; clear hcur)
      | (go_at_call 30; have hcur := And.left ‹Below W.heap.size W _ ∧ _›; refine (takesRef_any l hl _ rfl _ _ id hid wide _ _ (SlOf.keep HS.out hcur (Nat.le_refl _))).mono ?_; rintro e w' ⟨rfl, hb'⟩; clear hcur)
      | (go_at_call 13; have hcur := And.left ‹Below W.heap.size W _ ∧ _›; refine (keptRules_any l _ _ _ _ _ _ (SlOf.keep HS.out hcur (Nat.le_refl _)) (SlOf.keep HX'.out hcur (Nat.le_refl _))).mono ?_; rintro e w' ⟨rfl, hb'⟩; clear hcur)
      | (go_at_call 31; have hcur := And.left ‹Below W.heap.size W _ ∧ _›; refine (keptFrame_any id wide d _ _ _ _ _ (SlOf.keep HD.out hcur (Nat.le_refl _)) (SlOf.keep HY.out hcur (Nat.le_refl _)) hrd).mono ?_; rintro e w' ⟨rfl, hb'⟩; clear hcur))
  all_goals go_wp2_with fail
  all_goals go_ret
  all_goals exact ⟨rfl, bstep (bstep (bstep (bstep hb5.drew (by assumption) (Nat.le_refl _)) (by assumption) (Nat.le_refl _)) (by assumption) (Nat.le_refl _)) (by assumption) (Nat.le_refl _)⟩
end Go.Proofs.YtflghgilcooiiaaDoor
