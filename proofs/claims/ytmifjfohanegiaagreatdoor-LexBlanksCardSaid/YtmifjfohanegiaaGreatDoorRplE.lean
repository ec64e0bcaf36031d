/-
  chars.Quote: contract.
-/
import Derived.Test.YtmifjfohanegiaaGreatDoorRplD
namespace Go.Proofs.YtmifjfohanegiaaGreatDoor
set_option linter.unusedVariables false
open Go.RowKit

theorem repMethod (fuel : Nat) (v : Value) (w : World) : (Go.method (fuel + 1) 200 v "Replace").run Tryz.prog w = .ok (232, v) w := by kernel_rfl
set_option maxRecDepth 100000 in
set_option maxHeartbeats 2000000 in
theorem replace_any (r g k : Nat) (base : Nat) (hr : base ≤ r) (s : List UInt8) (hs : s.length ≤ 140737488351232) (w : World) (hk : Blk w r #[.int .u32 0, .int .i32 0, .int .u32 0, .nilIface, .slice (some ⟨g, 0, none⟩) 4 k])
    (hsl : SlOf w enBs 1 (some ⟨g, 0, none⟩) k escT) (hne : g ≠ r) :
    Calls Tryz.prog 24 #[.pointer (some ⟨r, 0, none⟩), .string ⟨s.toArray⟩] w fun e w' => e = .returned (.string ⟨(escQ s).toArray⟩) ∧ Below base w w' := by
  have HD := Lib.hid (do_first r (.int .u32 0) .nilIface (.slice (some ⟨g, 0, none⟩) 4 k) w hk base hr (fun u1 u2 w' => ∃ B, u1 = repV B ∧ RepAt w' (r + 1) B)
    (fun w1 hw1 hk1 => (buildOnce_any r g k _ _ _ _ base hr w1 hk1 (hsl.of_block fun b o e => by cases e; exact hw1 g hne)).mono fun e w' ⟨he, hb, B, hB, hR⟩ => ⟨he, hb, repV B, _, hB, B, rfl, hR⟩)
    (fun u1 u2 w1 w' ⟨B, hu, hR⟩ hw _ => ⟨B, hu, hR.of_heap fun k hk _ => hw k (by omega)⟩))
  have hmf : ∀ (fn : Fn) (first cap : Array Value) (w : World), (Instr.makeFunc fn first cap).run Tryz.prog w = .ok (.func fn first cap) w := fun _ _ _ _ => rfl
  have mR := repMethod
  have hrl0 := hk.lt
  clear hk hsl hne
  go_enter Tryz.func24, Tryz.ntmps24
  go_wp2_with fail
  with_reducible refine HD.out.mono ?_
  rintro e w1 ⟨rfl, hb, u1, u2, hk1, B, rfl, hR⟩
  have HB1 := Lib.hid hb
  have c3 := hk1.cell 3 _ rfl
  have HRB := Lib.hid (replB_any (r + 1) B s hs w1 hR)
  have hrl := hk1.lt
  clear HD hb hk1 hR
  unfold repV at *
  go_wp2_with fail
  with_reducible refine (HRB.out).mono ?_
  rintro e w2 ⟨rfl, hb⟩
  have HB2 := Lib.hid (bstep HB1.out hb (by omega))
  clear hb
  go_wp2_with fail
  go_ret
  exact ⟨rfl, HB2.out⟩

def quoL (s : List UInt8) : List UInt8 := 34 :: (escQ s ++ [34])
theorem strs_appQ (A B : List UInt8) : (⟨A.toArray⟩ : ByteArray) ++ ⟨B.toArray⟩ = ⟨(A ++ B).toArray⟩ := by
  have h : ∀ (a b : ByteArray), a.data.toList = b.data.toList → a = b := fun a b e => by cases a; cases b; simp at e; rw [e]
  apply h
  simp [ByteArray.data_append]
set_option maxRecDepth 100000 in
set_option maxHeartbeats 2000000 in
theorem quote_any (s : List UInt8) (hs : s.length ≤ 140737488351232) (w : World) :
    Calls Tryz.prog 9 #[.string ⟨s.toArray⟩] w fun e w' => e = .returned (.string ⟨(quoL s).toArray⟩) ∧ Below w.heap.size w w' := by
  have HS := Lib.hid (SlOf.lit w enBs 1 (fun _ => rfl) escT #[.string ⟨#[92]⟩, .string ⟨#[92, 92]⟩, .string ⟨#[34]⟩, .string ⟨#[92, 34]⟩] 9 4 rfl rfl (by decide))
  have HB0 := Lib.hid ((Below.refl w.heap.size w).alloc (Nat.le_refl _) (.cells #[.string ⟨#[92]⟩, .string ⟨#[92, 92]⟩, .string ⟨#[34]⟩, .string ⟨#[92, 34]⟩] 9))
  have hlen := escQ_len s
  have hle := cqL_le s
  have hbd : (escQ s).length ≤ 281474976702464 := by omega
  have cR := fun r g k base hr W hk hsl hne => replace_any r g k base hr s hs W hk hsl hne
  clear hlen hle
  obtain ⟨X1, hX1⟩ : ∃ X, X = 34 :: escQ s := ⟨_, rfl⟩
  obtain ⟨X2, hX2⟩ : ∃ X, X = quoL s := ⟨_, rfl⟩
  have hap1 : (⟨#[34]⟩ : ByteArray) ++ ⟨(escQ s).toArray⟩ = ⟨X1.toArray⟩ := by rw [hX1]; exact strs_appQ [34] (escQ s)
  have hap2 : (⟨X1.toArray⟩ : ByteArray) ++ ⟨#[34]⟩ = ⟨X2.toArray⟩ := by rw [hX1, hX2]; exact strs_appQ (34 :: escQ s) [34]
  have hl1 : X1.length = (escQ s).length + 1 := by rw [hX1]; rfl
  have hl1b : X1.length ≤ 281474976702465 := by omega
  have hn1 : ¬ (9223372036854775807 < 1 + (escQ s).length) := by omega
  have hn2 : ¬ (9223372036854775807 < X1.length + 1) := by omega
  rw [← hX2]
  clear hX1 hX2 hl1
  generalize escQ s = E at *
  go_enter Tryz.func9, Tryz.ntmps9
  go_wp2_with fail
  generalize w.alloc (.cells #[.string ⟨#[92]⟩, .string ⟨#[92, 92]⟩, .string ⟨#[34]⟩, .string ⟨#[92, 34]⟩] 9) = w1 at *
  with_reducible refine (newReplacer_any _ _ _ rfl _ HS.out).mono ?_
  rintro e w2 ⟨r, g', k', rfl, hb, hr, hk, hsl, hne⟩
  have HB2 := Lib.hid (bstep HB0.out hb (Nat.le_refl _))
  have HC := Lib.hid (cR r g' k' w.heap.size (by have := HB0.out.size; omega) w2 hk hsl hne)
  clear hb hk hsl hne cR HS HB0
  go_wp2_with fail
  with_reducible refine HC.out.mono ?_
  rintro e w3 ⟨rfl, hb⟩
  have HB3 := Lib.hid (HB2.out.trans hb)
  clear hb HC
  go_wp2_with fail
  go_ret
  exact ⟨rfl, HB3.out⟩
end Go.Proofs.YtmifjfohanegiaaGreatDoor
