/-
  sync.Once in one goroutine: the first call of Do, whatever the function does that it is handed, so long as it leaves the Once alone.
-/
import Derived.Test.YtampdbkafkcfdaaGreatDoorBaseD
import Derived.Test.YtampdbkafkcfdaaGreatDoorLexB
import Derived.Tactics
import Derived.Tactics2
import Derived.Defers
import Derived.Laws.Pointers
import Derived.Laws.LoneSync
import Derived.RegionTactic
import Derived.RegionCalls
import Derived.ChangeAlike

namespace Go.Proofs.YtampdbkafkcfdaaGreatDoor
set_option linter.unusedVariables false
open Go.RowKit

theorem rDisable (w : World) : (callFunc 133 #[]).run Tryz.prog w = .ok (.value (.tuple #[])) w := run_call_mark0 Tryz.func133 (by kernel_rfl) (by kernel_rfl) (by kernel_rfl) .disable (by kernel_rfl) w
theorem rEnable (w : World) : (callFunc 135 #[]).run Tryz.prog w = .ok (.value (.tuple #[])) w := run_call_mark0 Tryz.func135 (by kernel_rfl) (by kernel_rfl) (by kernel_rfl) .enable (by kernel_rfl) w
theorem rAcquire (a : Addr) (w : World) : (callFunc 136 #[.pointer (some a)]).run Tryz.prog w = .ok (.value (.tuple #[])) w := run_call_marked Tryz.func136 (by kernel_rfl) (by kernel_rfl) (by kernel_rfl) .acquire (by kernel_rfl) a w
theorem rRelease (a : Addr) (w : World) : (callFunc 138 #[.pointer (some a)]).run Tryz.prog w = .ok (.value (.tuple #[])) w := run_call_marked Tryz.func138 (by kernel_rfl) (by kernel_rfl) (by kernel_rfl) .releaseMerge (by kernel_rfl) a w

theorem store_deferred (a : Addr) (x : Value) (u : FrameMode) (w : World) (hc : w.cell? a = some x) (hz : w.frozen? a = false) :
    CallsD Tryz.prog 123 #[.pointer (some a), .bool true] u w fun e u' w' => u' = u ∧ (e = .returned (.tuple #[]) ∧ w' = w.drew.setCell a (.int .u32 1)) := by
  have hc' : w.drew.cell? a = some x := by go_simp
  have hz' : w.drew.frozen? a = false := by go_simp
  have hst := run_call_store (P := Tryz.prog) Tryz.func129 (by kernel_rfl) (by kernel_rfl) (by kernel_rfl) (by kernel_rfl) (k := .u32) (y := 1) hc' hz'
  go_enter_d Tryz.func123, Tryz.ntmps123
  go_wp2
  go_region_calls
  all_goals (go_end0; exact ⟨rfl, rfl⟩)

set_option maxRecDepth 100000 in
set_option maxHeartbeats 1600000 in
theorem unlock_deferred (a : Addr) (u : FrameMode) (w : World) (hc : w.cell? a = some (.int .i32 1)) (hz : w.frozen? a = false) :
    CallsD Tryz.prog 122 #[.pointer (some a)] u w fun e u' w' => u' = u ∧ (e = .returned (.tuple #[]) ∧ w' = w.setCell a (.int .i32 0)) := by
  have hd := rDisable
  have he := rEnable
  have hr := rRelease
  have hadd := run_call_add (P := Tryz.prog) Tryz.func139 (by kernel_rfl) (by kernel_rfl) (by kernel_rfl) .i32 (by kernel_rfl) (y := -1) (s := 0) hc hz (by simp [go_sem]; rfl)
  have hcv := run_convert_to_unsafe (P := Tryz.prog) (src := 239) (dst := 147) Tryz.underlying239 Tryz.underlying147 (by kernel_rfl) hc
  go_enter_d Tryz.func122, Tryz.ntmps122
  go_wp2
  go_end0
  go_wp2
  go_end0
  exact ⟨rfl, rfl⟩

set_option maxRecDepth 100000 in
set_option maxHeartbeats 1600000 in
theorem lock_free (a : Addr) (w : World) (hc : w.cell? a = some (.int .i32 0)) (hz : w.frozen? a = false) :
    Calls Tryz.prog 121 #[.pointer (some a)] w fun e w' => e = .returned (.tuple #[]) ∧ w' = w.setCell a (.int .i32 1) := by
  have hd := rDisable
  have he := rEnable
  have ha := rAcquire
  have hcas := run_call_cas_hit (P := Tryz.prog) Tryz.func134 (by kernel_rfl) (by kernel_rfl) (by kernel_rfl) .i32 (by kernel_rfl) (y := 1) hc hz
  have hc' : (w.setCell a (.int .i32 1)).cell? a = some (.int .i32 1) := World.cell?_setCell_same w a _ hc
  have hcv := run_convert_to_unsafe (P := Tryz.prog) (src := 239) (dst := 147) Tryz.underlying239 Tryz.underlying147 (by kernel_rfl) hc'
  go_enter Tryz.func121, Tryz.ntmps121
  go_wp2
  first | go_end0 | (simp only [Exit.inBlock, Exit.then]; refine bodyPost_ret (results_none rfl _ _ _) rfl ?_) | refine bodyPost_ret (results_none rfl _ _ _) rfl ?_
  go_wp2
  go_end0
  exact ⟨rfl, rfl⟩

theorem load_zero (a : Addr) (w : World) (hc : w.cell? a = some (.int .u32 0)) :
    Calls Tryz.prog 111 #[.pointer (some a)] w fun e w' => e = .returned (.bool false) ∧ w' = w := by
  have hl := run_call_load (P := Tryz.prog) Tryz.func120 (by kernel_rfl) (by kernel_rfl) (by kernel_rfl) .u32 (by kernel_rfl) hc
  go_enter Tryz.func111, Tryz.ntmps111
  go_wp2
  go_ret
  exact ⟨rfl, rfl⟩

set_option maxRecDepth 100000 in
set_option maxHeartbeats 1600000 in
/-- 'doSlow', not yet done and the lock free -/
theorem slow_any (b : Nat) (v1 v2 v3 : Value) (w : World) (hk : Blk w b #[.int .u32 0, .int .i32 0, v1, v2, v3]) (B : Nat) (hB : B ≤ b) (S : Value → Value → World → Prop)
    (hf : ∀ w1, (∀ k, k ≠ b → w1.heap[k]? = w.heap[k]?) → Blk w1 b #[.int .u32 0, .int .i32 1, v1, v2, v3] → Calls Tryz.prog 93 #[.pointer (some ⟨b, 0, none⟩)] w1 fun e w' => e = .returned (.tuple #[]) ∧ Below B w1 w' ∧ ∃ u1 u2, Blk w' b #[.int .u32 0, .int .i32 1, v1, u1, u2] ∧ S u1 u2 w')
    (hS : ∀ u1 u2 w1 w', S u1 u2 w1 → (∀ k, k ≠ b → w'.heap[k]? = w1.heap[k]?) → w1.heap.size ≤ w'.heap.size → S u1 u2 w') :
    Calls Tryz.prog 112 #[.pointer (some ⟨b, 0, none⟩), .func (.func 93) #[.pointer (some ⟨b, 0, none⟩)] #[]] w fun e w' => e = .returned (.tuple #[]) ∧ Below B w w' ∧ ∃ u1 u2, Blk w' b #[.int .u32 1, .int .i32 0, v1, u1, u2] ∧ S u1 u2 w' := by
  have hk1 := hk.st 1 (.int .i32 1)
  have c0 := hk.cell 0 _ rfl
  have c1 := hk.cell 1 _ rfl
  have f1 := hk.free 1
  have d0 := hk1.cell 0 _ rfl
  have hb1 : Below B w (w.setCell ⟨b, 1, none⟩ (.int .i32 1)) := (Below.refl _ _).setCell (p := ⟨b, 1, none⟩) hB _
  have HB1 := Lib.hid hb1
  have HK1 := Lib.hid hk1
  have HS := Lib.hid hS
  have hnot : ∀ (x : Bool) (w : World), (Op.unary .not (.bool x)).run Tryz.prog w = .ok (.bool (!x)) w := fun _ _ => rfl
  clear hk hk1 hb1 hS
  go_enter_defers Tryz.func112, Tryz.ntmps112
  go_wp2_with (first | (go_at_call 121; refine (lock_free ⟨b, 1, none⟩ _ c1 f1).mono ?_; rintro e w' ⟨rfl, rfl⟩) | (go_at_call 111; refine (load_zero ⟨b, 0, none⟩ _ d0).mono ?_; rintro e w' ⟨rfl, rfl⟩) | (go_at_call 93; refine (hf _ (fun k hk => Below.heap_setCell _ ⟨b, 1, none⟩ _ k hk) HK1.out).mono ?_; rintro e w' ⟨rfl, hb2, u1, u2, hk2, hs2⟩))
  have k0 := hk2.cell 0 _ rfl
  have z0 := hk2.free 0
  have hk3 : Blk (w'.drew.setCell ⟨b, 0, none⟩ (.int .u32 1)) b #[.int .u32 1, .int .i32 1, v1, u1, u2] := (hk2.keep (Below.refl _ _).drew (Nat.le_refl _)).st 0 _
  have HK4 := Lib.hid (hk3.st 1 (.int .i32 0))
  have k1 := hk3.cell 1 _ rfl
  have z1 := hk3.free 1
  have HB4 := Lib.hid (show Below B w ((w'.drew.setCell ⟨b, 0, none⟩ (.int .u32 1)).setCell ⟨b, 1, none⟩ (.int .i32 0)) from
    (((HB1.out.trans hb2).trans (Below.refl _ _).drew).setCell (p := ⟨b, 0, none⟩) hB _).setCell (p := ⟨b, 1, none⟩) hB _)
  have HS4 := Lib.hid (show S u1 u2 ((w'.drew.setCell ⟨b, 0, none⟩ (.int .u32 1)).setCell ⟨b, 1, none⟩ (.int .i32 0)) from HS.out _ _ _ _ hs2 (fun k hk => by
    rw [Below.heap_setCell _ ⟨b, 1, none⟩ _ k hk, Below.heap_setCell _ ⟨b, 0, none⟩ _ k hk]; rfl) (by simp [World.setCell]))
  refine leaves_cons (f := 123) (args := #[.pointer (some ⟨b, 0, none⟩), .bool true]) (by simp) (by simp [go_sem]) ?_
  refine (store_deferred ⟨b, 0, none⟩ _ .returning _ k0 z0).mono ?_
  rintro e u' w'' ⟨rfl, rfl, rfl⟩
  refine leaves_cons (f := 122) (args := #[.pointer (some ⟨b, 1, none⟩)]) (by simp [settle]) (by simp [go_sem]) ?_
  refine (unlock_deferred ⟨b, 1, none⟩ _ _ k1 z1).mono ?_
  rintro e u' w'' ⟨rfl, rfl, rfl⟩
  simp [Leaves, settle, results, Tryz.results112]
  exact ⟨HB4.out, u1, u2, HK4.out, HS4.out⟩

/-- 'Do', the first time -/
theorem do_first (b : Nat) (v1 v2 v3 : Value) (w : World) (hk : Blk w b #[.int .u32 0, .int .i32 0, v1, v2, v3]) (B : Nat) (hB : B ≤ b) (S : Value → Value → World → Prop)
    (hf : ∀ w1, (∀ k, k ≠ b → w1.heap[k]? = w.heap[k]?) → Blk w1 b #[.int .u32 0, .int .i32 1, v1, v2, v3] → Calls Tryz.prog 93 #[.pointer (some ⟨b, 0, none⟩)] w1 fun e w' => e = .returned (.tuple #[]) ∧ Below B w1 w' ∧ ∃ u1 u2, Blk w' b #[.int .u32 0, .int .i32 1, v1, u1, u2] ∧ S u1 u2 w')
    (hS : ∀ u1 u2 w1 w', S u1 u2 w1 → (∀ k, k ≠ b → w'.heap[k]? = w1.heap[k]?) → w1.heap.size ≤ w'.heap.size → S u1 u2 w') :
    Calls Tryz.prog 92 #[.pointer (some ⟨b, 0, none⟩), .func (.func 93) #[.pointer (some ⟨b, 0, none⟩)] #[]] w fun e w' => e = .returned (.tuple #[]) ∧ Below B w w' ∧ ∃ u1 u2, Blk w' b #[.int .u32 1, .int .i32 0, v1, u1, u2] ∧ S u1 u2 w' := by
  have c0 := hk.cell 0 _ rfl
  have HSL := Lib.hid (slow_any b v1 v2 v3 w hk B hB S hf hS)
  have hnot : ∀ (x : Bool) (w : World), (Op.unary .not (.bool x)).run Tryz.prog w = .ok (.bool (!x)) w := fun _ _ => rfl
  clear hk hf hS
  go_enter Tryz.func92, Tryz.ntmps92
  go_wp2_with (first | (go_at_call 111; refine (load_zero ⟨b, 0, none⟩ _ c0).mono ?_; rintro e w' ⟨rfl, rfl⟩) | (go_at_call 112; refine HSL.out.mono ?_; rintro e w' ⟨rfl, hb2, u1, u2, hk2, hs2⟩))
  go_end0
  exact ⟨rfl, hb2, u1, u2, hk2, hs2⟩
end Go.Proofs.YtampdbkafkcfdaaGreatDoor
