/-
  strings.NewReplacer and the first Do of its Once, as chars.Quote has them: contracts.
-/
import Derived.Test.YtmifjfohanegiaaGreatDoorRplB
namespace Go.Proofs.YtmifjfohanegiaaGreatDoor
set_option linter.unusedVariables false
open Go.RowKit

def repV (B : Nat) : Value := .iface 200 (.pointer (some ⟨B, 0, none⟩))
set_option maxRecDepth 100000 in
set_option maxHeartbeats 2000000 in
theorem buildOnce_any (r g k : Nat) (x0 x1 x2 x3 : Value) (base : Nat) (hr : base ≤ r) (w : World) (hk : Blk w r #[x0, x1, x2, x3, .slice (some ⟨g, 0, none⟩) 4 k]) (hs : SlOf w enBs 1 (some ⟨g, 0, none⟩) k escT) :
    Calls Tryz.prog 48 #[.pointer (some ⟨r, 0, none⟩)] w fun e w' => e = .returned (.tuple #[]) ∧ Below base w w' ∧ ∃ B, Blk w' r #[x0, x1, x2, repV B, .slice none 0 0] ∧ RepAt w' (r + 1) B := by
  have hc := hk.cell 4 _ rfl
  have cb := build_any r g k w hc hs
  have hrl := hk.lt
  have HK := Lib.hid hk
  clear hk hs
  unfold repV
  go_enter Tryz.func48, Tryz.ntmps48
  go_wp2_with fail
  with_reducible refine cb.mono ?_
  rintro e w1 ⟨B, rfl, hb, hrep⟩
  have hk1 := HK.out.keep hb (Nat.le_refl _)
  have c3 := hk1.cell 3 _ rfl
  have c4 := hk1.cell 4 _ rfl
  have f3 := hk1.free 3
  have f4 := hk1.free 4
  have hk2 := hk1.st 3 (.iface 200 (.pointer (some ⟨B, 0, none⟩)))
  have HK3 := Lib.hid (hk2.st 4 (.slice none 0 0))
  have HB := Lib.hid (((hb.mono (by omega)).setCell (p := ⟨r, 3, none⟩) hr (.iface 200 (.pointer (some ⟨B, 0, none⟩)))).setCell (p := ⟨r, 4, none⟩) hr (.slice none 0 0) : Below base w _)
  have hrep1 : RepAt w1 (r + 1) B := hrep.lower (by omega)
  have HR := Lib.hid (show RepAt ((w1.setCell ⟨r, 3, none⟩ (.iface 200 (.pointer (some ⟨B, 0, none⟩)))).setCell ⟨r, 4, none⟩ (.slice none 0 0)) (r + 1) B from
    hrep1.of_heap fun k hk _ => by rw [Below.heap_setCell _ ⟨r, 4, none⟩ _ k (by show k ≠ r; omega), Below.heap_setCell _ ⟨r, 3, none⟩ _ k (by show k ≠ r; omega)])
  clear hk1 hk2 hrep hrep1 cb hb hc
  go_wp2_with fail
  go_end0
  exact ⟨rfl, HB.out, B, HK3.out, HR.out⟩

set_option maxRecDepth 100000 in
set_option maxHeartbeats 2000000 in
theorem newReplacer_any (g n k : Nat) (hn : n = 4) (w : World) (hs : SlOf w enBs 1 (some ⟨g, 0, none⟩) k escT) :
    Calls Tryz.prog 23 #[.slice (some ⟨g, 0, none⟩) n k] w fun e w' => ∃ r g' k', e = .returned (.pointer (some ⟨r, 0, none⟩)) ∧ Below w.heap.size w w' ∧ w.heap.size ≤ r ∧
      Blk w' r #[.int .u32 0, .int .i32 0, .int .u32 0, .nilIface, .slice (some ⟨g', 0, none⟩) 4 k'] ∧ SlOf w' enBs 1 (some ⟨g', 0, none⟩) k' escT ∧ g' ≠ r := by
  subst hn
  obtain ⟨i0, hi, hz0, hz1, hz2⟩ := info_parts (P := Tryz.prog) (e := 9) (z := .string ⟨#[]⟩) (size := 1) (bytes := 16) (by kernel_rfl)
  have hcell : ∀ j u, (escT.flatMap enBs)[j]? = some u → w.cell? ((⟨g, 0, none⟩ : Addr).add j) = some u := fun j u hu => by
    have hj : j < (escT.flatMap enBs).length := (List.getElem?_eq_some_iff.1 hu).1
    obtain ⟨b, o, e, h1⟩ := hs.at' j hj
    cases e
    rw [Addr.add_lit, h1]
    exact hu
  have HC := Lib.hid hcell
  clear hcell hs
  go_enter Tryz.func23, Tryz.ntmps23
  go_wp2_with (at_builtin; refine wpList_append_own _ rfl _ _ 51 rfl w.heap.size 9 i0 (.string ⟨#[]⟩) 1 16 Tryz.underlying51 hi hz0 hz1 hz2 rfl (by decide) (.slice none 0 0) 0 [] rfl (World.ownsRow_nil w w.heap.size 9 1) ⟨g, 0, none⟩ 4 k (escT.flatMap enBs) rfl rfl HC.out (by simp [escT, enBs, Value.oneCell']) (by decide) (by decide) (Nat.le_refl _) ?_)
  intro v1 w1 hown hgrow _
  have ho : Owns w1 w.heap.size 9 1 enBs v1 escT := hown
  have hb : Below w.heap.size w w1 := Below.ofGrown hgrow
  obtain ⟨g', k', rfl, hg1, hg2, -⟩ := ho.block (by decide)
  have hsl := Lib.hid ho.sl.2
  have HB := Lib.hid hb
  have hr := hb.size
  clear hown hgrow ho hi hz0 hz1 hz2 hb
  have HK := Lib.hid (Blk.new w1 #[.int .u32 0, .int .i32 0, .int .u32 0, .nilIface, .slice (some ⟨g', 0, none⟩) 4 k'] 94)
  have HS := Lib.hid (SlOf.alloc hsl.out (.cells #[.int .u32 0, .int .i32 0, .int .u32 0, .nilIface, .slice (some ⟨g', 0, none⟩) 4 k'] 94))
  go_wp2_with fail
  go_ret
  exact ⟨w1.heap.size, g', k', rfl, HB.out.alloc hr _, hr, HK.out, HS.out, by omega⟩
end Go.Proofs.YtmifjfohanegiaaGreatDoor
