/-
  node.Message; a part of a list set anew.
-/
import Derived.Test.YtampdbkafkcfdaaGreatDoorPrnU
import Derived.Test.YtampdbkafkcfdaaGreatDoorNodB
import Derived.Great.Walk
import Derived.Test.YtampdbkafkcfdaaGreatDoorPrnPF
import Derived.Test.YtampdbkafkcfdaaGreatDoorVasA
import Derived.Test.YtampdbkafkcfdaaGreatDoorSamA
import Derived.Test.YtampdbkafkcfdaaGreatDoorPlain
import Derived.Test.YtampdbkafkcfdaaGreatDoorBarA

namespace Go.Proofs.YtampdbkafkcfdaaGreatDoor
set_option linter.unusedVariables false
open Go.RowKit

/-! ### the example -/
abbrev exS1 : SigX := ⟨⟨0, 0, [120], 1, 0, 0, 2, false, false, 1, 1, 0, 1, 0, 1, 0, 1, []⟩, [[65]]⟩
abbrev exS2 : SigX := ⟨⟨0, 0, [121], 2, 3, 15, 8, true, true, 1, 2, -40, 1, -104, 1, 47, 2, [107, 109]⟩, [[65], [66]]⟩
abbrev exM : MsgD := ⟨0, 0, 5, true, [77], 2, [65], [exS1, exS2]⟩
abbrev exT : TabD := ⟨0, 0, 5, true, [120], [(0, [111, 102, 102]), (-1, [111, 110])]⟩
abbrev exSta : StaD := ⟨0, 0, [[65]]⟩
def exD (m : MsgD) : DbD := ⟨false, ⟨0, 0, []⟩, exSta, [m], [exT]⟩
theorem ex_nod (m : MsgD) : nodL (exD m) = [.sta exSta, .msg m, .tab exT] := rfl

/-! ### the example turned -/
def tS (k : Nat) : SigX := match k with
  | 1 => ⟨{ exS2.d with sn := 1, sd := 3 }, exS2.rs⟩
  | 2 => ⟨{ exS2.d with unit := [10] }, exS2.rs⟩
  | 4 => ⟨exS2.d, []⟩
  | 5 => ⟨{ exS2.d with role := 3 }, exS2.rs⟩
  | 6 => ⟨{ exS2.d with role := 0 }, exS2.rs⟩
  | 7 => ⟨{ exS2.d with start := -1 }, exS2.rs⟩
  | 8 => ⟨{ exS2.d with size := 2147483648 }, exS2.rs⟩
  | 11 => ⟨{ exS2.d with mn := 2, md := 4 }, exS2.rs⟩
  | 12 => ⟨exS2.d, [[65], [83, 71, 95]]⟩
  | 13 => ⟨{ exS2.d with name := [67, 77, 95] }, exS2.rs⟩
  | _ => exS2
def tM (k : Nat) : MsgD := match k with
  | 0 => { exM with name := [66, 79, 95] }
  | 3 => { exM with id := 2147483648 }
  | 9 => { exM with size := -1 }
  | 10 => { exM with sender := [49] }
  | _ => { exM with sigs := [exS1, tS k] }

/-! ### the limits -/
abbrev liSta : StaD := ⟨0, 0, []⟩
def liD (ms : List MsgD) (ts : List TabD) : DbD := ⟨false, ⟨0, 0, []⟩, liSta, ms, ts⟩
abbrev liM (id : Nat) (s : List SigX) : MsgD := ⟨0, 0, id, false, [77], 0, [65], s⟩
abbrev liA : List UInt8 := List.replicate 1024 97
abbrev liT (r : List (Int × List UInt8)) : TabD := ⟨0, 0, 0, false, [120], r⟩
abbrev liR : List (Int × List UInt8) := List.replicate 256 (0, liA)
theorem liD_nod (ms : List MsgD) (ts : List TabD) : nodL (liD ms ts) = .sta liSta :: (ms.map .msg ++ ts.map .tab) := rfl
end Go.Proofs.YtampdbkafkcfdaaGreatDoor

namespace Go.Proofs.YtampdbkafkcfdaaGreatDoor
set_option linter.unusedVariables false
open Go.RowKit

abbrev zeroRat : Array Value := #[.int .i64 0, .int .i64 0]
theorem rat_zero : (Tryz.prog.info? 51).map (fun i => (i.zero, i.size)) = some (some (.agg zeroRat), 2) := by kernel_rfl
theorem rat_size : (Tryz.prog.info? 51).map (·.size) = some 2 := by kernel_rfl

/-- what is owned stays when a block is laid -/
theorem Owns.after {α : Type} {w : World} {b : Nat} {e : TypeId} {n : Nat} {en : α → List Value} {v : Value} {l : List α} (h : Owns w b e n en v l) (o : Obj) : Owns (w.alloc o) b e n en v l := h.keep ((Below.refl _ _).alloc (Nat.le_refl _) o) (Nat.le_refl _)
theorem Blk.after {w : World} {k : Nat} {C : Array Value} (h : Blk w k C) (o : Obj) : Blk (w.alloc o) k C := h.keep ((Below.refl _ _).alloc (Nat.le_refl _) o) (Nat.le_refl _)
theorem below_after {B : Nat} {w w' : World} (h : Below B w w') (hB : B ≤ w.heap.size) (o : Obj) : Below B w (w'.alloc o) := h.alloc (Nat.le_trans hB h.size) o

set_option maxRecDepth 100000 in
set_option maxHeartbeats 8000000 in
theorem example_any (w : World) :
    Calls Tryz.prog 14 #[] w fun e w' => ∃ v, e = .returned v ∧ OwnRd w' w.heap.size 69 fdNode 1 v (nodL (exD exM)) ∧ Below w.heap.size w w' := by
  have huR := Tryz.underlying51
  have huS := Tryz.underlying53
  have huM := Tryz.underlying46
  have huT := Tryz.underlying57
  obtain ⟨B, hB⟩ : ∃ B, B = w.heap.size := ⟨_, rfl⟩
  go_enter Tryz.func14, Tryz.ntmps14
  go_upto_region 2 with (refine wpList_newS (Z := zeroRat) (cs := #[.int .i64 0, .int .i64 1]) 51 (.tmp 1) (.tmp 7) rat_zero rfl rfl ?_)
  have b1 := Blk.new w #[.int .i64 0, .int .i64 1] 51
  have h1 := below_after (Below.refl w.heap.size w) (Nat.le_refl _) (.cells #[.int .i64 0, .int .i64 1] 51)
  have z1 := h1.size
  generalize w.alloc (.cells #[.int .i64 0, .int .i64 1] 51) = W1 at *
  generalize hk1 : w.heap.size = k1 at *
  go_upto_region 3 with (refine wpList_newS (Z := zeroRat) (cs := #[.int .i64 1, .int .i64 1]) 51 (.tmp 2) (.tmp 8) rat_zero rfl rfl ?_)
  have b2 := Blk.new W1 #[.int .i64 1, .int .i64 1] 51
  replace b1 := b1.after (.cells #[.int .i64 1, .int .i64 1] 51)
  have h2 := below_after h1 (by omega) (.cells #[.int .i64 1, .int .i64 1] 51)
  have z2 := h2.size
  clear h1 z1
  generalize W1.alloc (.cells #[.int .i64 1, .int .i64 1] 51) = W2 at *
  generalize W1.heap.size = k2 at *
  obtain ⟨C1, hC1⟩ : ∃ C, C = exS1.d.cells (.slice (some ⟨W2.heap.size, 0, none⟩) 1 1) := ⟨_, rfl⟩
  have HC1 := Lib.hid hC1
  have sC1 : C1.size = 19 := by rw [hC1]; rfl
  have uC1 : C1.all (·.oneCell') = true := by rw [hC1]; exact SigD.cells_one _ _ _ _
  clear hC1
  go_upto_region 4 with (first | (refine wpList_loadS b1 51 (.tmp 1) huR rat_size ?_) | (refine wpList_loadS b2 51 (.tmp 2) huR rat_size ?_) | (refine wpList_newS (Z := zeroSig) (cs := C1) 53 (.tmp 3) (.tmp 14) (by rw [sC1]; exact sig_zero) (by rw [sC1]; rfl) uC1 ?_ (hy := by rw [HC1.out]; rfl)))
  have oC1 := (Owns.lit W2 k1 enTx 1 (fun _ => rfl) [[65]] #[.string ⟨#[65]⟩] 9 1 rfl rfl (by decide) (by omega)).after (.cells C1 53)
  have bC1 : Blk ((W2.alloc (.cells #[.string ⟨#[65]⟩] 9)).alloc (.cells C1 53)) (W2.heap.size + 1) C1 := by simpa using Blk.new (W2.alloc (.cells #[.string ⟨#[65]⟩] 9)) C1 53
  have h3 := below_after (below_after h2 (by omega) (.cells #[.string ⟨#[65]⟩] 9)) (by omega) (.cells C1 53)
  have zh3 := h3.size
  clear h2
  rw [World.size_alloc]
  generalize (W2.alloc (.cells #[.string ⟨#[65]⟩] 9)).alloc (.cells C1 53) = W3 at *
  generalize W2.heap.size = kA at *
  clear b1 b2
  obtain ⟨C2, hC2⟩ : ∃ C, C = exS2.d.cells (.slice (some ⟨W3.heap.size, 0, none⟩) 2 2) := ⟨_, rfl⟩
  have HC2 := Lib.hid hC2
  have sC2 : C2.size = 19 := by rw [hC2]; rfl
  have uC2 : C2.all (·.oneCell') = true := by rw [hC2]; exact SigD.cells_one _ _ _ _
  clear hC2
  go_upto_region 5 with (first | (refine wpList_newS (Z := zeroSig) (cs := C2) 53 (.tmp 4) (.tmp 20) (by rw [sC2]; exact sig_zero) (by rw [sC2]; rfl) uC2 ?_ (hy := by rw [HC2.out]; rfl)))
  have oC2 := (Owns.lit W3 k1 enTx 1 (fun _ => rfl) [[65], [66]] #[.string ⟨#[65]⟩, .string ⟨#[66]⟩] 9 2 rfl rfl (by decide) (by omega)).after (.cells C2 53)
  replace oC1 := (oC1.after (.cells #[.string ⟨#[65]⟩, .string ⟨#[66]⟩] 9)).after (.cells C2 53)
  replace bC1 := (bC1.after (.cells #[.string ⟨#[65]⟩, .string ⟨#[66]⟩] 9)).after (.cells C2 53)
  have bC2 : Blk ((W3.alloc (.cells #[.string ⟨#[65]⟩, .string ⟨#[66]⟩] 9)).alloc (.cells C2 53)) (W3.heap.size + 1) C2 := by simpa using Blk.new (W3.alloc (.cells #[.string ⟨#[65]⟩, .string ⟨#[66]⟩] 9)) C2 53
  have h4 := below_after (below_after h3 (by omega) (.cells #[.string ⟨#[65]⟩, .string ⟨#[66]⟩] 9)) (by omega) (.cells C2 53)
  have zh4 := h4.size
  clear h3
  rw [World.size_alloc]
  generalize (W3.alloc (.cells #[.string ⟨#[65]⟩, .string ⟨#[66]⟩] 9)).alloc (.cells C2 53) = W4 at *
  generalize W3.heap.size = kB at *
  obtain ⟨M1, hM1⟩ : ∃ C, C = exM.cells (.slice (some ⟨W4.heap.size, 0, none⟩) 2 2) := ⟨_, rfl⟩
  have HM1 := Lib.hid hM1
  have sM1 : M1.size = 8 := by rw [hM1]; rfl
  have uM1 : M1.all (·.oneCell') = true := by rw [hM1]; exact MsgD.cells_one _ _ _ _
  clear hM1
  go_upto_region 6 with (first | (refine wpList_loadS bC1 53 (.tmp 3) huS (by rw [sC1]; exact sig_size) ?_) | (refine wpList_loadS bC2 53 (.tmp 4) huS (by rw [sC2]; exact sig_size) ?_) | (refine Great.wpList_buildSliceTo rfl 44 53 2 #[(0, .tmp 21), (1, .tmp 22)] rfl W4.heap.size rfl (some 23) rfl Tryz.underlying44 (C1 ++ C2) (by rw [HC1.out, HC2.out]; kernel_rfl) ?_) | (refine wpList_newS (Z := zeroMsgD) (cs := M1) 46 (.tmp 5) (.tmp 24) (by rw [sM1]; exact msg_zero) (by rw [sM1]; rfl) uM1 ?_ (hy := by rw [HM1.out]; rfl)))
  have e1 : C1.toList.length = 19 := by rw [Array.length_toList]; exact sC1
  have e2 : C2.toList.length = 19 := by rw [Array.length_toList]; exact sC2
  have oS : OwnRd ((W4.alloc (.cells (C1 ++ C2) 53)).alloc (.cells M1 46)) k1 53 fdSig 19 (.slice (some ⟨W4.heap.size, 0, none⟩) 2 2) [exS1, exS2] :=
    ⟨[⟨C1.toList, e1⟩, ⟨C2.toList, e2⟩], (Owns.lit W4 k1 Row.en 19 Row.en_len [(⟨C1.toList, e1⟩ : Row 19), ⟨C2.toList, e2⟩] (C1 ++ C2) 53 2 (by rw [Array.toList_append]; show C1.toList ++ C2.toList = C1.toList ++ (C2.toList ++ []); rw [List.append_nil]) rfl (by decide) (by omega)).after (.cells M1 46),
      .cons ⟨_, congrArg Array.toList HC1.out, ((oC1.after _).after _).fromBase (Nat.zero_le _)⟩ (.cons ⟨_, congrArg Array.toList HC2.out, ((oC2.after _).after _).fromBase (Nat.zero_le _)⟩ .nil)⟩
  have fM : fdMsg ((W4.alloc (.cells (C1 ++ C2) 53)).alloc (.cells M1 46)) exM M1.toList := ⟨_, congrArg Array.toList HM1.out, oS.fromBase (Nat.zero_le _)⟩
  have bM1 : Blk ((W4.alloc (.cells (C1 ++ C2) 53)).alloc (.cells M1 46)) (W4.heap.size + 1) M1 := by simpa using Blk.new (W4.alloc (.cells (C1 ++ C2) 53)) M1 46
  have h5 := below_after (below_after h4 (by omega) (.cells (C1 ++ C2) 53)) (by omega) (.cells M1 46)
  have z5 := h5.size
  clear h4 oS oC1 oC2 bC1 bC2
  rw [World.size_alloc]
  generalize (W4.alloc (.cells (C1 ++ C2) 53)).alloc (.cells M1 46) = W5 at *
  generalize W4.heap.size = kC at *
  obtain ⟨T1, hT1⟩ : ∃ C, C = exT.cells (.slice (some ⟨W5.heap.size, 0, none⟩) 2 2) := ⟨_, rfl⟩
  have HT1 := Lib.hid hT1
  have sT1 : T1.size = 6 := by rw [hT1]; rfl
  have uT1 : T1.all (·.oneCell') = true := by rw [hT1]; exact TabD.cells_one _ _ _ _
  clear hT1
  go_upto_region 7 with (first | (refine Great.wpList_buildSliceTo rfl 55 63 2 #[(0, .tmp 25), (1, .tmp 26)] rfl W5.heap.size rfl (some 27) rfl Tryz.underlying55 #[.int .i64 0, .string ⟨#[111, 102, 102]⟩, .int .i64 (-1), .string ⟨#[111, 110]⟩] (by kernel_rfl) ?_) | (refine wpList_newS (Z := zeroTabD) (cs := T1) 57 (.tmp 6) (.tmp 28) (by rw [sT1]; exact tab_zero) (by rw [sT1]; rfl) uT1 ?_ (hy := by rw [HT1.out]; rfl)))
  have oT := (Owns.lit W5 k1 enRw 2 enRw_len [(0, [111, 102, 102]), (-1, [111, 110])] #[.int .i64 0, .string ⟨#[111, 102, 102]⟩, .int .i64 (-1), .string ⟨#[111, 110]⟩] 63 2 rfl rfl (by decide) (by omega)).after (.cells T1 57)
  have fT : fdTab ((W5.alloc (.cells #[.int .i64 0, .string ⟨#[111, 102, 102]⟩, .int .i64 (-1), .string ⟨#[111, 110]⟩] 63)).alloc (.cells T1 57)) exT T1.toList := ⟨_, congrArg Array.toList HT1.out, oT.fromBase (Nat.zero_le _)⟩
  have bT1 : Blk ((W5.alloc (.cells #[.int .i64 0, .string ⟨#[111, 102, 102]⟩, .int .i64 (-1), .string ⟨#[111, 110]⟩] 63)).alloc (.cells T1 57)) (W5.heap.size + 1) T1 := by simpa using Blk.new (W5.alloc (.cells #[.int .i64 0, .string ⟨#[111, 102, 102]⟩, .int .i64 (-1), .string ⟨#[111, 110]⟩] 63)) T1 57
  have h6 := below_after (below_after h5 (by omega) (.cells #[.int .i64 0, .string ⟨#[111, 102, 102]⟩, .int .i64 (-1), .string ⟨#[111, 110]⟩] 63)) (by omega) (.cells T1 57)
  have z6 := h6.size
  replace bM1 := (bM1.after (.cells #[.int .i64 0, .string ⟨#[111, 102, 102]⟩, .int .i64 (-1), .string ⟨#[111, 110]⟩] 63)).after (.cells T1 57)
  replace fM := last_fdMsg _ _ _ _ (last_fdMsg _ _ _ _ fM ((Below.refl _ _).alloc (Nat.le_refl _) (.cells #[.int .i64 0, .string ⟨#[111, 102, 102]⟩, .int .i64 (-1), .string ⟨#[111, 110]⟩] 63))) ((Below.refl _ _).alloc (Nat.le_refl _) (.cells T1 57))
  clear h5 oT
  rw [World.size_alloc]
  generalize (W5.alloc (.cells #[.int .i64 0, .string ⟨#[111, 102, 102]⟩, .int .i64 (-1), .string ⟨#[111, 110]⟩] 63)).alloc (.cells T1 57) = W6 at *
  generalize W5.heap.size = kD at *
  have bM2 := bM1.after (.cells #[.string ⟨#[65]⟩] 9)
  have bT2 := bT1.after (.cells #[.string ⟨#[65]⟩] 9)
  have oA := Owns.lit W6 k1 enTx 1 (fun _ => rfl) [[65]] #[.string ⟨#[65]⟩] 9 1 rfl rfl (by decide) (by omega)
  have h7 := below_after h6 (by omega) (.cells #[.string ⟨#[65]⟩] 9)
  have z7 := h7.size
  have hb8 : Below (W6.alloc (.cells #[.string ⟨#[65]⟩] 9)).heap.size (W6.alloc (.cells #[.string ⟨#[65]⟩] 9)) ((W6.alloc (.cells #[.string ⟨#[65]⟩] 9)).alloc (.cells #[.iface 28 (.agg #[.int .i64 0, .int .i64 0, .slice (some ⟨W6.heap.size, 0, none⟩) 1 1]), .iface 46 (.agg M1), .iface 57 (.agg T1)] 69)) := (Below.refl _ _).alloc (Nat.le_refl _) _
  have fM2 := last_fdMsg _ _ _ _ (last_fdMsg _ _ _ _ fM ((Below.refl _ _).alloc (Nat.le_refl _) (.cells #[.string ⟨#[65]⟩] 9))) hb8
  have fT2 := last_fdTab _ _ _ _ (last_fdTab _ _ _ _ fT ((Below.refl _ _).alloc (Nat.le_refl _) (.cells #[.string ⟨#[65]⟩] 9))) hb8
  have oN := Owns.lit (W6.alloc (.cells #[.string ⟨#[65]⟩] 9)) k1 Row.en 1 Row.en_len [(⟨[.iface 28 (.agg #[.int .i64 0, .int .i64 0, .slice (some ⟨W6.heap.size, 0, none⟩) 1 1])], rfl⟩ : Row 1), ⟨[.iface 46 (.agg M1)], rfl⟩, ⟨[.iface 57 (.agg T1)], rfl⟩] #[.iface 28 (.agg #[.int .i64 0, .int .i64 0, .slice (some ⟨W6.heap.size, 0, none⟩) 1 1]), .iface 46 (.agg M1), .iface 57 (.agg T1)] 69 3 rfl rfl (by decide) (by omega)
  have hN : OwnRd ((W6.alloc (.cells #[.string ⟨#[65]⟩] 9)).alloc (.cells #[.iface 28 (.agg #[.int .i64 0, .int .i64 0, .slice (some ⟨W6.heap.size, 0, none⟩) 1 1]), .iface 46 (.agg M1), .iface 57 (.agg T1)] 69)) k1 69 fdNode 1 (.slice (some ⟨(W6.alloc (.cells #[.string ⟨#[65]⟩] 9)).heap.size, 0, none⟩) 3 3) (nodL (exD exM)) := ⟨_, oN, .cons ⟨_, rfl, _, rfl, (oA.after _).fromBase (Nat.zero_le _)⟩ (.cons ⟨_, rfl, fM2⟩ (.cons ⟨_, rfl, fT2⟩ .nil))⟩
  rw [World.size_alloc] at hN
  have HE := Lib.hid (show _ ∧ _ from ⟨hN, below_after h7 (by omega) (.cells #[.iface 28 (.agg #[.int .i64 0, .int .i64 0, .slice (some ⟨W6.heap.size, 0, none⟩) 1 1]), .iface 46 (.agg M1), .iface 57 (.agg T1)] 69)⟩)
  clear hN fM2 fT2 oN oA hb8 fM fT h6 h7
  go_wp2_with (first | (refine wpList_loadS bM2 46 (.tmp 5) huM (by rw [sM1]; exact msg_size) ?_) | (refine wpList_loadS bT2 57 (.tmp 6) huT (by rw [sT1]; exact tab_size) ?_))
  go_ret
  exact ⟨_, rfl, HE.out.1, HE.out.2⟩
end Go.Proofs.YtampdbkafkcfdaaGreatDoor

namespace Go.Proofs.YtampdbkafkcfdaaGreatDoor
set_option linter.unusedVariables false
open Go.RowKit Go.Shelf

/-! ### the parts of a database, gathered again -/
def nrmV (d : DbD) : DbD := if d.has then d else { d with ver := ⟨0, 0, []⟩ }
theorem gat_tabs : ∀ (l : List TabD) (i last : Nat) (d : DbD), 2 ≤ last → last ≤ 4 → gatL i last d (l.map NodeD.tab) = .good { d with tabs := d.tabs ++ l }
  | [], i, last, d, h, _ => by
    show (if last < 2 then GatR.bad 2 i else GatR.good d) = _
    rw [if_neg (by omega), List.append_nil]
  | t :: l, i, last, d, h, h4 => by
    show (if gatB i last (.tab t) then GatR.bad 4 i else gatL (i + 1) 4 (d.add (.tab t)) (l.map NodeD.tab)) = _
    have e : gatB i last (.tab t) = false := by
      unfold gatB
      rw [decide_eq_true (show 2 ≤ last from h), decide_eq_false (show ¬ (NodeD.tab t).rank < last by simp only [NodeD.rank]; omega)]
      rfl
    rw [e, gat_tabs l (i + 1) 4 _ (by decide) (by decide)]
    simp [DbD.add]
theorem gat_msgs (r : List TabD) : ∀ (l : List MsgD) (i last : Nat) (d : DbD), 2 ≤ last → last ≤ 3 → gatL i last d (l.map NodeD.msg ++ r.map NodeD.tab) = .good { d with msgs := d.msgs ++ l, tabs := d.tabs ++ r }
  | [], i, last, d, h, _ => by
    rw [List.map_nil, List.nil_append, gat_tabs r i last d h (by omega), List.append_nil]
  | m :: l, i, last, d, h, h3 => by
    show (if gatB i last (.msg m) then GatR.bad 4 i else gatL (i + 1) 3 (d.add (.msg m)) (l.map NodeD.msg ++ r.map NodeD.tab)) = _
    have e : gatB i last (.msg m) = false := by
      unfold gatB
      rw [decide_eq_true (show 2 ≤ last from h), decide_eq_false (show ¬ (NodeD.msg m).rank < last by simp only [NodeD.rank]; omega)]
      rfl
    rw [e, gat_msgs r l (i + 1) 3 _ (by decide) (by decide)]
    simp [DbD.add]
theorem gat_nod (d : DbD) : gatL 0 0 DbD.zero (nodL d) = .good (nrmV d) := by
  have h : ∀ (i last : Nat) (e : DbD), last ≤ 1 → gatL i last e (.sta d.sta :: (d.msgs.map .msg ++ d.tabs.map .tab)) = .good { e with sta := d.sta, msgs := e.msgs ++ d.msgs, tabs := e.tabs ++ d.tabs } := fun i last e hl => by
    show (if gatB i last (.sta d.sta) then GatR.bad 4 i else gatL (i + 1) 2 (e.add (.sta d.sta)) (d.msgs.map .msg ++ d.tabs.map .tab)) = _
    have e1 : gatB i last (.sta d.sta) = false := by
      unfold gatB
      rw [decide_eq_false (show ¬ 2 ≤ last by omega), decide_eq_false (show ¬ (NodeD.sta d.sta).rank < last by simp only [NodeD.rank]; omega)]
      rfl
    rw [e1, gat_msgs d.tabs d.msgs (i + 1) 2 _ (by decide) (by decide)]
    rfl
  unfold nodL nrmV
  cases hh : d.has
  · rw [show (if false = true then [NodeD.ver d.ver] else []) = [] from rfl, List.nil_append, h 0 0 _ (by decide)]
    cases d
    simp only at hh
    subst hh
    rfl
  · show (if gatB 0 0 (.ver d.ver) then GatR.bad 4 0 else gatL 1 1 (DbD.zero.add (.ver d.ver)) (.sta d.sta :: (d.msgs.map .msg ++ d.tabs.map .tab))) = _
    rw [show gatB 0 0 (.ver d.ver) = false from rfl, h 1 1 _ (by decide)]
    cases d
    simp only at hh
    subst hh
    rfl
theorem pfil_nod (d : DbD) : pfilV (nodL d) = .tuple #[.string ⟨(filT d).toArray⟩, if filN d = 0 then .nilIface else errV (filN d)] := by
  unfold pfilV
  rw [gat_nod, filB_nod, filL_nod]
  cases h : dbB d
  · rw [(fil_bad d h).1, (fil_bad d h).2]
    rfl
  · by_cases hl : (dbT d).length ≤ 1048576
    · rw [(fil_good d h hl).1, (fil_good d h hl).2]
      simp only [if_true]
      rw [if_pos hl]
    · rw [(fil_long d h hl).1, (fil_long d h hl).2]
      simp only [if_true]
      rw [if_neg hl]
      rfl
theorem nod_ok {d : DbD} (h : DbFine d) (hw : DbWf d) : (∀ n ∈ nodL d, NodOK n) ∧ (∀ n ∈ nodL d, NodFit n) ∧ (nodL d).length ≤ 1000000 := by
  have ok := h.ok hw
  have fit := h.fit
  refine ⟨fun n hn => ?_, fun n hn => ?_, ?_⟩
  · unfold nodL at hn
    rcases List.mem_append.1 hn with hn | hn
    · cases hh : d.has
      · rw [hh] at hn; simp at hn
      · rw [hh] at hn
        obtain rfl : n = .ver d.ver := by simpa using hn
        exact ok.tx
    · rcases List.mem_cons.1 hn with rfl | hn
      · exact ⟨ok.nn, ok.nm⟩
      · rcases List.mem_append.1 hn with hn | hn
        · obtain ⟨m, hm, rfl⟩ := List.mem_map.1 hn
          exact ok.ms m hm
        · obtain ⟨t, ht, rfl⟩ := List.mem_map.1 hn
          exact ok.tb t ht
  · unfold nodL at hn
    rcases List.mem_append.1 hn with hn | hn
    · cases hh : d.has
      · rw [hh] at hn; simp at hn
      · rw [hh] at hn
        obtain rfl : n = .ver d.ver := by simpa using hn
        trivial
    · rcases List.mem_cons.1 hn with rfl | hn
      · exact fit.nn
      · rcases List.mem_append.1 hn with hn | hn
        · obtain ⟨m, hm, rfl⟩ := List.mem_map.1 hn
          exact fit.ms m hm
        · obtain ⟨t, ht, rfl⟩ := List.mem_map.1 hn
          exact fit.ts t ht
  · have h1 := h.mn
    have h2 := h.tn
    unfold nodL
    rw [List.length_append, List.length_cons, List.length_append, List.length_map, List.length_map]
    have : (if d.has then [NodeD.ver d.ver] else []).length ≤ 1 := by split <;> simp
    omega
theorem db_len {d : DbD} (ok : DbOK d) (fit : DbFit d) (hb : dbB d = true) : (dbT d).length ≤ 100000000000000 := by
  rw [dbB_eq] at hb
  simp only [Bool.and_eq_true, decide_eq_true_eq] at hb
  obtain ⟨h1, h2, h3, h4⟩ := hb
  have l1 := head_len d ok h1
  have l2 := msgs_len d.msgs ok.ms h3
  have l3 := tabs_len d.tabs ok.tb h4
  have l4 := fit.tt
  unfold dbT
  rw [List.length_append, List.length_append, List.length_append]
  have : ((if d.tabs.isEmpty then [] else [10]) : List UInt8).length ≤ 1 := by split <;> simp
  omega
theorem plain_fil (d : DbD) : ∀ w, LaidT w → Calls Tryz.prog 38 #[if filN d = 0 then .nilIface else errV (filN d), .int .i64 (filN d : Nat)] w fun e w' => e = .returned (.bool true) ∧ Below w.heap.size w w' := by
  intro w hg
  cases h : dbB d
  · rw [(fil_bad d h).1]
    simpa using plain_errno 4 4 (by omega) (by omega) w hg
  · by_cases hl : (dbT d).length ≤ 1048576
    · rw [(fil_good d h hl).1]
      simpa using plain_nil 0 w
    · rw [(fil_long d h hl).1]
      simpa using plain_errno 5 5 (by omega) (by omega) w hg
theorem rd_nrm {w : World} {x : DbD} {D : Array Value} {u v z : Value} (h : rdDb w x (x.cells u v z).toList) : rdDb w (nrmV x) ((nrmV x).cells u v z).toList := by
  obtain ⟨a, p, b, q, c, r, e, h1, h2, h3⟩ := h
  have e2 := Array.toList_inj.1 e
  unfold DbD.cells at e2
  simp only [Array.mk.injEq, List.cons.injEq, and_true, true_and] at e2
  obtain ⟨rfl, rfl, rfl⟩ := e2
  unfold nrmV
  split
  · exact ⟨a, p, b, q, c, r, rfl, h1, h2, h3⟩
  · exact ⟨a, p, b, q, c, r, rfl, h1, h2, h3⟩

theorem fdDb_setAt {w : World} {x : DbD} {l : List Value} (h : fdDb w x l) {k : Nat} {C : Array Value} (hk : w.heap[k]? = some (.cells C 32)) (j : Nat) (v : Value) : fdDb (w.setCell ⟨k, j, none⟩ v) x l := by
  obtain ⟨u, v', z, e, h1, h2, h3⟩ := h
  exact ⟨u, v', z, e, h1.setAt hk (by decide) j v, h2.setAt hk (by decide) (apt_fdMsg (by decide) (by decide)) j v, h3.setAt hk (by decide) (apt_fdTab (by decide)) j v⟩
theorem fd_unver {w : World} {x : DbD} {C : Array Value} (h : fdDb w x C.toList) (hx : x.has = false) : fdDb w (nrmV x) (((C.setIfInBounds 1 (.int .i64 0)).setIfInBounds 2 (.int .i64 0)).setIfInBounds 3 (.string ⟨#[]⟩)).toList := by
  obtain ⟨u, v, z, e, h1, h2, h3⟩ := h
  rw [Array.toList_inj.1 e]
  have e2 : nrmV x = { x with ver := ⟨0, 0, []⟩ } := by unfold nrmV; rw [if_neg (by rw [hx]; decide)]
  rw [e2]
  exact ⟨u, v, z, rfl, h1, h2, h3⟩
theorem fd_ver {w : World} {x : DbD} {C : Array Value} (h : fdDb w x C.toList) (hx : x.has = true) : fdDb w (nrmV x) C.toList := by
  unfold nrmV
  rw [if_pos hx]
  exact h

end Go.Proofs.YtampdbkafkcfdaaGreatDoor

namespace Go.Proofs.YtampdbkafkcfdaaGreatDoor
set_option linter.unusedVariables false
open Go.RowKit

theorem OwnRd.weak {α : Type} {rd rd' : World → α → List Value → Prop} {w : World} {base : Nat} {e : TypeId} {size : Nat} {v : Value} {xs : List α} (h : OwnRd w base e rd size v xs) (hm : ∀ x cs, rd w x cs → rd' w x cs) : OwnRd w base e rd' size v xs := by
  obtain ⟨rows, h1, h2⟩ := h
  exact ⟨rows, h1, h2.mono fun x r hr => hm x _ hr⟩
/-- a list of parts written: List and File of a document that is fine -/
theorem file_parts (y : DbD) (hf : DbFine y) (hw : DbWf y) : ∀ n, n = (nodL y).length → ∀ a cap W, SlRd W rdNode 1 a cap (nodL y) → TabsU W → PowTab W →
    Calls Tryz.prog 7 #[.slice a n cap] W fun e w' => e = .returned (.tuple #[.string ⟨(filT y).toArray⟩, if filN y = 0 then .nilIface else errV (filN y)]) ∧ Below W.heap.size W w' := fun n hn a cap W h1 h2 h3 => by
  rw [← pfil_nod]
  exact pfile_any (nodL y) (nod_ok hf hw).1 (nod_ok hf hw).2.1 (nod_ok hf hw).2.2 (fun h => by rw [filB_nod] at h; rw [filL_nod]; exact db_len (hf.ok hw) hf.fit h) n hn a cap W h1 h2 h3
end Go.Proofs.YtampdbkafkcfdaaGreatDoor

namespace Go.Proofs.YtampdbkafkcfdaaGreatDoor
set_option linter.unusedVariables false
open Go.RowKit

/-! ### bounds, tried -/
def inB (n : Int) : Bool := decide (-9223372036854775808 ≤ n ∧ n ≤ 9223372036854775807)
def sigFB (d : SigD) : Bool := inB d.role && decide (d.branch < 18446744073709551616) && inB d.start && inB d.size && inB d.sn && inB d.sd && inB d.on && inB d.od && inB d.mn && inB d.md && inB d.xn && inB d.xd && decide (d.name.length ≤ 16777216) && decide (d.unit.length ≤ 16777216)
def txFB (l : List (List UInt8)) : Bool := decide (l.length ≤ 262144) && l.all fun r => decide (r.length ≤ 16777216)
def sxFB (s : SigX) : Bool := sigFB s.d && txFB s.rs
def msgFB (m : MsgD) : Bool := decide (m.id < 4294967296) && inB m.size && decide (m.name.length ≤ 16777216) && decide (m.sender.length ≤ 16777216) && decide (m.sigs.length ≤ 262144) && m.sigs.all sxFB
theorem sxFB_ok {s : SigX} (h : sxFB s = true) : SxFine s ∧ SxWf s := by
  unfold sxFB sigFB txFB inB at h
  simp only [Bool.and_eq_true, decide_eq_true_eq, List.all_eq_true] at h
  obtain ⟨⟨⟨⟨⟨⟨⟨⟨⟨⟨⟨⟨⟨⟨a1, a2⟩, a3⟩, a4⟩, a5⟩, a6⟩, a7⟩, a8⟩, a9⟩, b1⟩, b2⟩, b3⟩, b4⟩, b5⟩, b6, b7⟩ := h
  exact ⟨⟨b4, b5, b6, b7⟩, ⟨⟨a1, a2, a3, a4, a5, a6, a7, a8, a9, b1, b2, b3, Nat.le_trans b4 (by decide), Nat.le_trans b5 (by decide)⟩, fun r hr => Nat.le_trans (b7 r hr) (by decide)⟩⟩
theorem msgFB_ok {m : MsgD} (h : msgFB m = true) : MsgFine m ∧ MsgWf m := by
  unfold msgFB inB at h
  simp only [Bool.and_eq_true, decide_eq_true_eq, List.all_eq_true] at h
  obtain ⟨⟨⟨⟨⟨a1, a2⟩, a3⟩, a4⟩, a5⟩, a6⟩ := h
  exact ⟨⟨a3, a4, a5, fun s hs => (sxFB_ok (a6 s hs)).1⟩, ⟨a1, a2, Nat.le_trans a3 (by decide), Nat.le_trans a4 (by decide), fun s hs => (sxFB_ok (a6 s hs)).2⟩⟩
theorem doc_ok {d : DbD} (h0 : d.ver.text.length ≤ 16777216) (h1 : txFB d.sta.names = true) (h2 : d.msgs.length ≤ 262144) (h3 : ∀ m ∈ d.msgs, msgFB m = true) (h4 : d.tabs.length ≤ 262144) (h5 : ∀ t ∈ d.tabs, TabFine t ∧ TabWf t) : DbFine d ∧ DbWf d := by
  unfold txFB at h1
  simp only [Bool.and_eq_true, decide_eq_true_eq, List.all_eq_true] at h1
  exact ⟨⟨h0, h1.1, h1.2, h2, fun m hm => (msgFB_ok (h3 m hm)).1, h4, fun t ht => (h5 t ht).1⟩, ⟨Nat.le_trans h0 (by decide), fun r hr => Nat.le_trans (h1.2 r hr) (by decide), fun m hm => (msgFB_ok (h3 m hm)).2, fun t ht => (h5 t ht).2⟩⟩

/-! ### the example -/
theorem exT_ok : TabFine exT ∧ TabWf exT := by
  refine ⟨⟨by decide, by decide, fun r hr => ?_⟩, ⟨by decide, by decide, fun r hr => ?_⟩⟩
  · rcases (by simpa using hr : r = (0, [111, 102, 102]) ∨ r = (-1, [111, 110])) with rfl | rfl <;> decide
  · rcases (by simpa using hr : r = (0, [111, 102, 102]) ∨ r = (-1, [111, 110])) with rfl | rfl <;> exact ⟨⟨by decide, by decide⟩, by decide⟩
theorem exD_ok (m : MsgD) (h : msgFB m = true) : DbFine (exD m) ∧ DbWf (exD m) :=
  doc_ok (Nat.zero_le _) (by show txFB [[65]] = true; decide) (by show (1 : Nat) ≤ _; decide) (fun x hx => by rw [List.mem_singleton.1 (show x ∈ [m] from hx)]; exact h) (by show (1 : Nat) ≤ _; decide) (fun t ht => by rw [List.mem_singleton.1 (show t ∈ [exT] from ht)]; exact exT_ok)
theorem ex_zero : filN (exD exM) = 0 := by kernel_rfl
theorem ex_text : filT (exD exM) = [66, 85, 95, 58, 32, 65, 10, 10, 66, 79, 95, 32, 50, 49, 52, 55, 52, 56, 51, 54, 53, 51, 32, 77, 58, 32, 50, 32, 65, 10, 32, 83, 71, 95, 32, 120, 32, 77, 32, 58, 32, 48, 124, 50, 64, 49, 43, 32, 40, 49, 44, 48, 41, 32, 91, 48, 124, 48, 93, 32, 34, 34, 32, 65, 10, 32, 83, 71, 95, 32, 121, 32, 109, 51, 32, 58, 32, 49, 53, 124, 56, 64, 48, 45, 32, 40, 48, 46, 53, 44, 45, 52, 48, 41, 32, 91, 45, 49, 48, 52, 124, 50, 51, 46, 53, 93, 32, 34, 107, 109, 34, 32, 65, 44, 66, 10, 10, 86, 65, 76, 95, 32, 50, 49, 52, 55, 52, 56, 51, 54, 53, 51, 32, 120, 32, 48, 32, 34, 111, 102, 102, 34, 32, 45, 49, 32, 34, 111, 110, 34, 32, 59, 10] := by kernel_rfl

theorem tM_ok : ∀ k, k < 14 → msgFB (tM k) = true := by decide +kernel
theorem tM_bad : ∀ k, k < 14 → filN (exD (tM k)) = 4 := by decide +kernel

theorem liD_ok (ms : List MsgD) (ts : List TabD) (h2 : ms.length ≤ 262144) (h3 : ∀ m ∈ ms, msgFB m = true) (h4 : ts.length ≤ 262144) (h5 : ∀ t ∈ ts, TabFine t ∧ TabWf t) : DbFine (liD ms ts) ∧ DbWf (liD ms ts) :=
  doc_ok (Nat.zero_le _) (by show txFB [] = true; decide) h2 h3 h4 h5
theorem liM_ok (id : Nat) (hid : id < 4294967296) (s : List SigX) (hl : s.length ≤ 262144) (hs : ∀ x ∈ s, x = exS2) : msgFB (liM id s) = true := by
  have h1 : s.all sxFB = true := List.all_eq_true.2 fun x hx => by rw [hs x hx]; decide
  unfold msgFB
  simp only [Bool.and_eq_true, decide_eq_true_eq]
  exact ⟨⟨⟨⟨⟨hid, by decide⟩, by decide⟩, by decide⟩, hl⟩, h1⟩
theorem liT_ok (r : List (Int × List UInt8)) (hl : r.length ≤ 262144) (hr : ∀ x ∈ r, x.1 = 0 ∧ x.2.length ≤ 1024) : TabFine (liT r) ∧ TabWf (liT r) :=
  ⟨⟨by show (1 : Nat) ≤ _; decide, hl, fun x hx => Nat.le_trans (hr x hx).2 (by decide)⟩, ⟨by show (0 : Nat) < _; decide, by show (1 : Nat) ≤ _; decide, fun x hx => ⟨by rw [(hr x hx).1]; exact ⟨by decide, by decide⟩, Nat.le_trans (hr x hx).2 (by decide)⟩⟩⟩
theorem li_msgs : filN (liD (List.replicate 512 (liM 2147483647 [])) []) = 0 := by kernel_rfl
theorem li_more : filN (liD (List.replicate 512 (liM 2147483647 []) ++ [liM 0 []]) []) = 4 := by kernel_rfl
theorem li_sigs : filN (liD [liM 0 (List.replicate 64 exS2)] []) = 0 := by kernel_rfl
theorem li_big : filN (liD [liM 0 (List.replicate 64 exS2 ++ [exS2])] []) = 4 := by kernel_rfl
end Go.Proofs.YtampdbkafkcfdaaGreatDoor

namespace Go.Proofs.YtampdbkafkcfdaaGreatDoor
set_option linter.unusedVariables false
open Go.RowKit

theorem run_assert_sure {P : Program} {t : TypeId} {fs : Array Field} (hu : P.underlying t = some (.struct fs)) (v : Value) (xT : TypeId) (w : World) : (Instr.typeAssert (.iface t v) xT t false).run P w = .ok v w := by
  unfold Instr.typeAssert
  simp only [Sem.run_bind, run_underlying hu, Result.andThen]
  simp
set_option maxRecDepth 100000 in
set_option maxHeartbeats 4000000 in
theorem nmsgI_any (m : MsgD) (w : World) (cs : Array Value) (hx : rdMsg w m cs.toList) (hr : m.sigs.length ≤ 4000000) (hr2 : ∀ s ∈ m.sigs, s.rs.length ≤ 4000000) :
    Calls Tryz.prog 37 #[.iface 46 (.agg cs)] w fun e w' => ∃ C : Array Value, e = .returned (.agg C) ∧ (∃ v, C.toList = (m.cells v).toList ∧ OwnRd w' w.heap.size 53 fdSig 19 v m.sigs) ∧ Below w.heap.size w w' := by
  have hMM := run_assert_sure Tryz.underlying46
  have hu := Tryz.underlying46
  have hbz : Below w.heap.size w (w.alloc (.cells zeroMsgD 46)) := (Below.refl _ _).alloc (Nat.le_refl _) _
  have c := nmessage_own m _ cs (last_rdMsg _ _ _ _ hx hbz) hr hr2
  have K := Lib.hid (heap_alloc_new w (.cells zeroMsgD 46))
  have HBZ := Lib.hid hbz
  clear hx hbz
  go_enter Tryz.func37, Tryz.ntmps37
  go_wp2_with fail
  with_reducible refine c.mono ?_
  rintro e w1 ⟨C, rfl, ⟨vs, eC, hos⟩, hb⟩
  have hfd : fdMsg w1 m C.toList := ⟨vs, eC, hos.fromBase (Nat.zero_le _)⟩
  have k2 := Blk.kindAt K.out hb
  have b2 : Blk w1 w.heap.size zeroMsgD := ⟨_, k2⟩
  have q0 : C.size = 8 := by have := fdMsg_size hfd; rwa [Array.length_toList] at this
  have q1 := fdMsg_one hfd
  have HOS := Lib.hid hos
  have HK2 := Lib.hid k2
  have HB := Lib.hid (bstep HBZ.out hb (Nat.le_refl _))
  clear c hb hfd k2 hos
  go_wp2_with (refine wpList_storeS (cs := C) b2 46 (.tmp 2) (.tmp 5) (by rw [q0]; exact msg_size) (by rw [q0]; rfl) q1 ?_)
  have hrun := run_loadS (b2.row C) 46 _ hu rfl (by rw [q0]; exact msg_size)
  have hb6 := below_row HB.out (Nat.le_refl _) C
  refine bodyPost_ret (v := .agg C) (by simp [results, Tryz.results37, Act.put, asAddr, hrun]) rfl ⟨C, rfl, ⟨vs, eC, ?_⟩, hb6⟩
  exact (OwnRd.apt HOS.out (by decide) (apt_fdSig (by decide)) HK2.out (by simp [World.setRow]) (fun b _ hne => heap_setRow_other _ _ _ _ hne)).fromBase (by simp)

/-- one cell of an element set anew -/
theorem OwnRd.setE {α : Type} {rd : World → α → List Value → Prop} {w : World} {base : Nat} {T : TypeId} {n m b cap : Nat} {xs : List α} (h : OwnRd w base T rd n (.slice (some ⟨b, 0, none⟩) m cap) xs) (ha : Apt rd T) {i : Nat} (hi : i < xs.length) (e : Nat) (he : e < n) (v : Value) (x' : α)
    (hx : ∀ cs, rd (w.setCell ⟨b, i * n + e, none⟩ v) xs[i] cs → rd (w.setCell ⟨b, i * n + e, none⟩ v) x' (cs.set e v)) :
    OwnRd (w.setCell ⟨b, i * n + e, none⟩ v) base T rd n (.slice (some ⟨b, 0, none⟩) m cap) (xs.set i x') := by
  obtain ⟨rows, h1, h2⟩ := h
  have hlen := h2.len
  have hi' : i < rows.length := by omega
  obtain ⟨c, hg⟩ : ∃ c, w.heap[b]? = some (.cells c T) := by
    rcases h1.2 with ⟨hv, h0⟩ | ⟨g, cap, cur, hv, hb, hg, -⟩
    · omega
    · simp only [Value.slice.injEq, Option.some.injEq, Addr.mk.injEq] at hv
      obtain ⟨⟨rfl, -, -⟩, -, -⟩ := hv
      exact ⟨cur, hg⟩
  obtain ⟨r, hr⟩ : ∃ r : Row n, r.1 = rows[i].1.set e v := ⟨⟨rows[i].1.set e v, by rw [List.length_set]; exact rows[i].2⟩, rfl⟩
  have o1 := h1.setCellRow hi' he v r hr
  refine ⟨rows.set i r, o1, ?_⟩
  have hk : ∀ x cs, rd w x cs → rd (w.setCell ⟨b, i * n + e, none⟩ v) x cs := fun x cs hrd =>
    ha _ _ _ _ _ _ _ hrd hg (by simp [World.setCell]) (fun k _ hne => Below.heap_setCell _ _ _ _ hne)
  refine (h2.mono fun x r' hr' => hk _ _ hr').set ?_
  rw [hr]
  exact hx _ (hk _ _ (h2.get hi hi'))
end Go.Proofs.YtampdbkafkcfdaaGreatDoor
