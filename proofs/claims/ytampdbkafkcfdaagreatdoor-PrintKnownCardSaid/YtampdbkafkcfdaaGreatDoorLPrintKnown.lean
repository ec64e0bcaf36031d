/-
  PROVED: busbar/busbarlaw07.PrintKnown: for every input the law returns true and leaves its arguments as they were. No condition.
-/
import Derived.Test.YtampdbkafkcfdaaGreatDoorPknF
import Derived.Test.YtampdbkafkcfdaaGreatDoorAtF
import Derived.Test.YtampdbkafkcfdaaGreatDoorCards
import Derived.Test.YtampdbkafkcfdaaGreatDoorTie
import Derived.Test.YtampdbkafkcfdaaGreatDoorPlain
import Derived.Test.YtampdbkafkcfdaaGreatDoorTxtP
import Derived.Test.YtampdbkafkcfdaaGreatDoorChrE
import Derived.Lay
import Derived.Stop.LaidErr
import Derived.LaidLaws
import Derived.LaidHandle
import Derived.LaidMore
import Derived.MakeChecks
import Derived.Stop.Joined
import Derived.RowKit
import Derived.RowKitTokens
import Derived.ChangeSame
import Derived.ChangeVars
import Derived.JoinedOf
import Derived.Lib.LaidTab
import Derived.Lib.LaidU8
import Derived.SevenTiedAt

namespace Go.Proofs.YtampdbkafkcfdaaGreatDoor
set_option linter.unusedVariables false
open Go.RowKit

def knD : DbD := ⟨true, ⟨0, 0, [97, 34, 98]⟩, ⟨0, 0, [[65], [66]]⟩, [], []⟩
theorem kn_zero : filN knD = 0 := by kernel_rfl
theorem kn_text : filT knD = [86, 69, 82, 83, 73, 79, 78, 32, 34, 97, 92, 34, 98, 34, 10, 66, 85, 95, 58, 32, 65, 32, 66, 10] := by kernel_rfl
theorem em_zero : filN (liD [] []) = 0 := by kernel_rfl
theorem em_text : filT (liD [] []) = [66, 85, 95, 58, 10] := by kernel_rfl
theorem kn_ok : DbFine knD ∧ DbWf knD := doc_ok (by show (3 : Nat) ≤ _; decide) (by show txFB [[65], [66]] = true; decide) (Nat.zero_le _) (fun m hm => by cases hm) (Nat.zero_le _) (fun t ht => by cases ht)
abbrev knT : TabD := ⟨0, 0, 0, false, [], []⟩
theorem pf_nil : pfilV [] = .tuple #[.string ⟨#[]⟩, faultV 2 0 0] := by kernel_rfl
theorem pf_tab : pfilV [.tab knT] = .tuple #[.string ⟨#[]⟩, faultV 4 0 0] := by kernel_rfl

set_option maxRecDepth 100000 in
set_option maxHeartbeats 16000000 in
theorem printknown_any (w : World) (hT : TabsU w) (hp : PowTab w) (hg : LaidT w) :
    Calls Tryz.prog 4 #[] w fun e w' => e = .returned (.bool true) ∧ Below w.heap.size w w' := by
  have HTU := Lib.hid (fun W (h : Below w.heap.size w W) => TabsU.keep hT h)
  have HPT := Lib.hid (fun W (h : Below w.heap.size w W) => PowTab.keep hp h)
  have HGT := Lib.hid (fun W (h : Below w.heap.size w W) => LaidT.keep hg h)
  clear hT hp hg
  have cE := example_any w
  have cF1 := file_parts (exD exM) (exD_ok exM (by decide)).1 (exD_ok exM (by decide)).2
  rw [ex_text, ex_zero, if_pos rfl] at cF1
  go_enter Tryz.func4, Tryz.ntmps4
  go_wp2_with fail
  with_reducible refine cE.mono ?_
  rintro e w1 ⟨v, rfl, hown, hb⟩
  have HB1 := Lib.hid hb
  obtain ⟨a1, c1, rfl, hs1⟩ := hown.shape
  have cF := cF1 _ rfl a1 c1 w1 (hs1.weak fun _ _ => fd_node) (HTU.out _ hb) (HPT.out _ hb)
  clear cE cF1 hown hs1 hb
  generalize (nodL (exD exM)).length = n1 at *
  go_wp2_with fail
  with_reducible refine cF.mono ?_
  rintro e w2 ⟨rfl, hb⟩
  have HB2 := Lib.hid (bstep HB1.out hb (Nat.le_refl _))
  clear cF hb
  -- the empty document
  obtain ⟨X3, hX3⟩ : ∃ X : Obj, X = .cells #[.iface 28 (.agg #[.int .i64 0, .int .i64 0, .slice none 0 0])] 69 := ⟨_, rfl⟩
  have hb3 : Below w.heap.size w (w2.alloc (.cells #[.iface 28 (.agg #[.int .i64 0, .int .i64 0, .slice none 0 0])] 69)) := HB2.out.alloc HB2.out.size _
  have cF3 := file_parts (liD [] []) (liD_ok [] [] (Nat.zero_le _) (fun m hm => by cases hm) (Nat.zero_le _) (fun t ht => by cases ht)).1 (liD_ok [] [] (Nat.zero_le _) (fun m hm => by cases hm) (Nat.zero_le _) (fun t ht => by cases ht)).2 1 rfl _ 1 _ (rd_lit (w := w2) [(⟨[.iface 28 (.agg #[.int .i64 0, .int .i64 0, .slice none 0 0])], rfl⟩ : Row 1)] #[.iface 28 (.agg #[.int .i64 0, .int .i64 0, .slice none 0 0])] 69 1 rfl rfl (by decide) (.cons ⟨_, rfl, none, 0, rfl, SlOf.nil _ _ _⟩ .nil)) (HTU.out _ hb3) (HPT.out _ hb3)
  rw [em_text, em_zero, if_pos rfl] at cF3
  have HB3 := Lib.hid hb3
  clear hb3 hX3
  go_wp2_with fail
  with_reducible refine cF3.mono ?_
  rintro e w4 ⟨rfl, hb⟩
  have HB4 := Lib.hid (bstep HB3.out hb (Nat.le_refl _))
  clear cF3 hb
  have oA := Owns.lit w4 0 enTx 1 (fun _ => rfl) [[65], [66]] #[.string ⟨#[65]⟩, .string ⟨#[66]⟩] 9 2 rfl rfl (by decide) (Nat.zero_le _)
  have hb5 : Below w.heap.size w ((w4.alloc (.cells #[.string ⟨#[65]⟩, .string ⟨#[66]⟩] 9)).alloc (.cells #[.iface 25 (.agg #[.int .i64 0, .int .i64 0, .string ⟨#[97, 34, 98]⟩]), .iface 28 (.agg #[.int .i64 0, .int .i64 0, .slice (some ⟨w4.heap.size, 0, none⟩) 2 2])] 69)) := (HB4.out.alloc HB4.out.size _).alloc (by have := HB4.out.size; simp; omega) _
  have cF4 := file_parts knD kn_ok.1 kn_ok.2 2 rfl _ 2 _ (rd_lit (w := w4.alloc (.cells #[.string ⟨#[65]⟩, .string ⟨#[66]⟩] 9)) [(⟨[.iface 25 (.agg #[.int .i64 0, .int .i64 0, .string ⟨#[97, 34, 98]⟩])], rfl⟩ : Row 1), ⟨[.iface 28 (.agg #[.int .i64 0, .int .i64 0, .slice (some ⟨w4.heap.size, 0, none⟩) 2 2])], rfl⟩] #[.iface 25 (.agg #[.int .i64 0, .int .i64 0, .string ⟨#[97, 34, 98]⟩]), .iface 28 (.agg #[.int .i64 0, .int .i64 0, .slice (some ⟨w4.heap.size, 0, none⟩) 2 2])] 69 2 rfl rfl (by decide) (.cons rfl (.cons ⟨_, rfl, some ⟨w4.heap.size, 0, none⟩, 2, rfl, (oA.after _).sl.2⟩ .nil))) (HTU.out _ hb5) (HPT.out _ hb5)
  rw [kn_text, kn_zero, if_pos rfl, World.size_alloc] at cF4
  have HB5 := Lib.hid hb5
  clear hb5 oA
  go_wp2_with fail
  with_reducible refine cF4.mono ?_
  rintro e w6 ⟨rfl, hb⟩
  have HB6 := Lib.hid (bstep HB5.out hb (by simp))
  clear cF4 hb
  have cF5 := pfile_any [] (fun n hn => by cases hn) (fun n hn => by cases hn) (by decide) (fun _ => by decide) 0 rfl none 0 w6 (SlRd.nil _ _ _) (HTU.out _ HB6.out) (HPT.out _ HB6.out)
  rw [pf_nil] at cF5
  go_wp2_with fail
  with_reducible refine cF5.mono ?_
  rintro e w7 ⟨rfl, hb⟩
  have HB7 := Lib.hid (bstep HB6.out hb (Nat.le_refl _))
  clear cF5 hb
  have hb8 : Below w.heap.size w (w7.alloc (.cells #[.iface 57 (.agg #[.int .i64 0, .int .i64 0, .int .u32 0, .bool false, .string ⟨#[]⟩, .slice none 0 0])] 69)) := HB7.out.alloc HB7.out.size _
  have cF6 := pfile_any [.tab knT] (fun n hn => by rw [List.mem_singleton.1 hn]; exact ⟨by show (0 : Nat) < _; decide, Nat.zero_le _, fun r hr => by cases hr⟩) (fun n hn => by rw [List.mem_singleton.1 hn]; exact Nat.zero_le _) (by decide) (fun _ => by decide +kernel) 1 rfl _ 1 _ (rd_lit (w := w7) [(⟨[.iface 57 (.agg #[.int .i64 0, .int .i64 0, .int .u32 0, .bool false, .string ⟨#[]⟩, .slice none 0 0])], rfl⟩ : Row 1)] #[.iface 57 (.agg #[.int .i64 0, .int .i64 0, .int .u32 0, .bool false, .string ⟨#[]⟩, .slice none 0 0])] 69 1 rfl rfl (by decide) (.cons ⟨_, rfl, none, 0, rfl, SlOf.nil _ _ _⟩ .nil)) (HTU.out _ hb8) (HPT.out _ hb8)
  rw [pf_tab] at cF6
  have HB8 := Lib.hid hb8
  clear hb8
  go_wp2_with fail
  with_reducible refine cF6.mono ?_
  rintro e w9 ⟨rfl, hb⟩
  have HB9 := Lib.hid (bstep HB8.out hb (Nat.le_refl _))
  clear cF6 hb
  go_wp2_with fail
  with_reducible refine (at_flt 2 0 0 (by decide) (by decide) _ (HGT.out _ HB9.out)).mono ?_
  rintro e w10 ⟨rfl, hb⟩
  have HB10 := Lib.hid (bstep HB9.out hb (Nat.le_refl _))
  clear hb
  go_wp2_with fail
  with_reducible refine (at_flt 4 0 0 (by decide) (by decide) _ (HGT.out _ HB10.out)).mono ?_
  rintro e w11 ⟨rfl, hb⟩
  have HB11 := Lib.hid (bstep HB10.out hb (Nat.le_refl _))
  clear hb
  go_wp2_with fail
  go_loopw [12] (fun i wr => ∃ k : Nat, k ≤ 14 ∧ i = .int .i64 k ∧ Below w.heap.size w wr) (fun i _ => 14 - (intOf i).toNat)
  case atStart => exact ⟨0, by decide, rfl, HB11.out⟩
  case round =>
    obtain ⟨k, hk, rfl, hbel⟩ := hrel
    have HBW := Lib.hid hbel
    clear hbel
    by_cases hlt : (k : Int) < 14
    · have cR := refused_any k (by omega) wr (HTU.out _ HBW.out) (HPT.out _ HBW.out) (HGT.out _ HBW.out)
      go_wp2_with fail
      with_reducible refine cR.mono ?_
      rintro e w12 ⟨rfl, hb⟩
      have HB12 := Lib.hid (bstep HBW.out hb (Nat.le_refl _))
      clear hb cR
      go_wp2_with fail
      go_roundw
      case rel => exact ⟨k + 1, by omega, by go_num, HB12.out⟩
      case measure => simp [intOf]; omega
    · obtain rfl : k = 14 := by omega
      have cL := limits_any wr (HTU.out _ HBW.out) (HPT.out _ HBW.out) (HGT.out _ HBW.out)
      go_wp2_with fail
      with_reducible refine cL.mono ?_
      rintro e w13 ⟨rfl, hb⟩
      have HB13 := Lib.hid (bstep HBW.out hb (Nat.le_refl _))
      clear hb cL
      go_wp2_with fail
      go_ret
      exact ⟨rfl, HB13.out⟩
end Go.Proofs.YtampdbkafkcfdaaGreatDoor

namespace Go.Proofs.YtampdbkafkcfdaaGreatDoor.printKnown
set_option linter.unusedVariables false
open Go.ChangeShapes Go.WideShapes Go.ChangeAt Go.RowKit

abbrev laidL : List (String × DataW Unit) := [("math/bits.deBruijn32tab", Rows.laid_math_bits_deBruijn32tab), ("math/bits.deBruijn64tab", Rows.laid_math_bits_deBruijn64tab), ("internal/strconv.uint64pow10", Rows.laid_internal_strconv_uint64pow10), ("unicode/utf8.acceptRanges", Rows.laid_unicode_utf8_acceptRanges), ("errors.errorType", Rows.laid_errors_errorType), ("unicode/utf8.first", Rows.laid_unicode_utf8_first)]
abbrev laidD : List (String × DataW Unit) := [("math/bits.deBruijn32tab", Rows.laid_math_bits_deBruijn32tab), ("math/bits.deBruijn64tab", Rows.laid_math_bits_deBruijn64tab), ("internal/strconv.uint64pow10", Rows.laid_internal_strconv_uint64pow10), ("unicode/utf8.acceptRanges", Rows.laid_unicode_utf8_acceptRanges), ("unicode/utf8.first", Rows.laid_unicode_utf8_first)]
abbrev laidE : List (String × DataW Unit) := [("errors.errorType", Rows.laid_errors_errorType)]
noncomputable def laidB (os : Os) : World :=
  let w0 := World.holding Tryz.prog os ⟨#[], #[], []⟩
  { w0 with heap := w0.heap.modify 0 fun
      | .cells _ t frozen => .cells #[.iface 127 (.agg #[.pointer (some ⟨9, 36, none⟩)])] t frozen
      | o => o }
noncomputable def laidW (os : Os) : World := (laidB os).layVars Tryz.prog laidD
theorem laidW_os (os : Os) : (laidW os).os = os := by unfold laidW; rw [World.layVars_os]; rfl
theorem laidD_met (os : Os) : laidMet Tryz.prog laidD (laidW os) := by
  have e1 : (laidD.filter fun x => (laidD.map (·.1)).contains x.1) = laidD := List.filter_eq_self.2 fun x hx => List.contains_iff_mem.2 (List.mem_map.2 ⟨x, hx, rfl⟩)
  have e2 : (laidD.filter fun x => !(laidD.map (·.1)).contains x.1) = [] := List.filter_eq_nil_iff.2 fun x hx => by rw [List.contains_iff_mem.2 (List.mem_map.2 ⟨x, hx, rfl⟩)]; simp
  exact laidMet_layVars (w0 := laidB os) (laidD.map (·.1)) [] (by rw [e1]; rfl) (by rw [e1]; kernel_rfl) (by rw [e1]; kernel_rfl) (by rw [e2]; exact LaidIn.none)
theorem laidD_met' (os : Os) (args : Array Value) : laidMet Tryz.prog laidD ((laidW os).forCall (fun _ _ => 0) ⟨#[], args, []⟩).memory :=
  (laidD_met os).of_heap (by simp [World.memory, World.forCall, Input.heap])
theorem laidW_met (os : Os) (args : Array Value) : laidMetH Tryz.prog laidL ((laidW os).forCall (fun _ _ => 0) ⟨#[], args, []⟩).memory :=
  laidMetH_of_parts (laidD_met' os args) (by kernel_rfl)
theorem laidD_of {W : World} (h : laidMetH Tryz.prog laidL W) : laidMet Tryz.prog laidD W ∧ handlesMet Tryz.prog laidE W := h
theorem perr_global : Tryz.prog.globalNamed "errors.errorType" = some 0 := by kernel_rfl
theorem perr_rt : (Tryz.prog.cutTypes.find? (·.1 == "internal/reflectlite.rtype")).map (·.2) = some 127 := by kernel_rfl
theorem perr_row : ((List.range Tryz.prog.types.size).filter fun t => Tryz.prog.rowNamed t [101, 114, 114, 111, 114]) = [36] := by kernel_rfl
theorem perr_handle : typeHandle Tryz.prog 36 = .pointer (some ⟨9, 36, none⟩) := by kernel_rfl
theorem laidT_ofH {W : World} (h0 : laidMetH Tryz.prog laidL W) : LaidT W := by
  have h := (laidD_of h0).2
  obtain ⟨name, u, ty, e1, e2, e3, e4, e5⟩ := h _ (List.mem_singleton.2 rfl)
  have en : name = [101, 114, 114, 111, 114] := (Option.some.inj e1).symm
  subst en
  obtain rfl := Option.some.inj (perr_rt.symm.trans e2)
  have hm : ty ∈ (List.range Tryz.prog.types.size).filter fun t => Tryz.prog.rowNamed t [101, 114, 114, 111, 114] := List.mem_filter.2 ⟨List.mem_range.2 e3, e4⟩
  rw [perr_row] at hm
  obtain rfl := List.mem_singleton.1 hm
  rw [perr_handle] at e5
  simpa [LaidT] using World.var?_cell perr_global e5 0
theorem laidMet_ofH {W : World} (h0 : laidMetH Tryz.prog laidL W) : laidMet Tryz.prog laidD W := (laidD_of h0).1
theorem powGl : Tryz.prog.globalNamed "internal/strconv.uint64pow10" = some 1 := by kernel_rfl
theorem powTab_ofH {W : World} (h0 : laidMetH Tryz.prog laidL W) : PowTab W := by
  have h := laidMet_ofH h0
  have h2 := laidMet.tail (laidMet.tail (h))
  exact Lib.tabIs_of_head (powGl) (t := 192) (e := 49) (n := 20) (by kernel_rfl) Tryz.underlying192 Tryz.underlying49 (by kernel_rfl) (by kernel_rfl) h2
theorem gFirst : Tryz.prog.globalNamed "unicode/utf8.first" = some 5 := by kernel_rfl
theorem gAcc : Tryz.prog.globalNamed "unicode/utf8.acceptRanges" = some 6 := by kernel_rfl
theorem tFirst : (Tryz.prog.globals[5]?).map (·.type) = some 200 := by kernel_rfl
theorem tAcc : (Tryz.prog.globals[6]?).map (·.type) = some 203 := by kernel_rfl
theorem c8 : Tryz.prog.cellsOf 5 = 1 := by kernel_rfl
theorem cF : Tryz.prog.cellsOf 200 = 256 := by kernel_rfl
theorem cR : Tryz.prog.cellsOf 202 = 2 := by kernel_rfl
theorem eFirst : Rows.laid_unicode_utf8_first = Lib.firstData := by kernel_rfl
theorem eAcc : Rows.laid_unicode_utf8_acceptRanges = Lib.acceptData := by kernel_rfl
theorem tabsU_ofH {W : World} (h0 : laidMetH Tryz.prog laidL W) : TabsU W := by
  have hL := laidMet_ofH h0
  have r1 : Lib.VarReads Tryz.prog W "unicode/utf8.first" Rows.laid_unicode_utf8_first := Lib.laidMet.reads hL (.tail _ (.tail _ (.tail _ (.tail _ (.head _)))))
  rw [eFirst] at r1
  have r2 : Lib.VarReads Tryz.prog W "unicode/utf8.acceptRanges" Rows.laid_unicode_utf8_acceptRanges := Lib.laidMet.reads hL (.tail _ (.tail _ (.tail _ (.head _))))
  rw [eAcc] at r2
  constructor
  · intro c hc
    obtain ⟨g, t, cs, fuel, p, hg, hty, hvar, hd⟩ := r1
    obtain rfl : 5 = g := Option.some.inj (gFirst.symm.trans hg)
    obtain rfl : 200 = t := Option.some.inj (tFirst.symm.trans hty)
    have hcs := Lib.cells_of_tab Tryz.underlying200 Tryz.underlying5 c8 cF hd
    rw [World.var?_cell hg hvar c, ← Array.getElem?_toList, hcs]
    simp [Lib.firstTab, hc]
  · intro i hi
    obtain ⟨g, t, cs, fuel, p, hg, hty, hvar, hd⟩ := r2
    obtain rfl : 6 = g := Option.some.inj (gAcc.symm.trans hg)
    obtain rfl : 203 = t := Option.some.inj (tAcc.symm.trans hty)
    obtain ⟨fu, d, q, h1, h2⟩ := Lib.array_elem Tryz.underlying203 hd i hi
    rw [List.getElem?_map, List.getElem?_range hi] at h1
    obtain rfl := Option.some.inj h1
    rw [cR] at h2
    have hz := Lib.ints_of_struct (k := .u8) Tryz.underlying202 (fun j f hj => by
      rcases j with _ | _ | j
      · simp at hj; subst hj; exact ⟨Tryz.underlying5, rfl, c8⟩
      · simp at hj; subst hj; exact ⟨Tryz.underlying5, rfl, c8⟩
      · simp at hj) cR h2
    have z0 := congrArg (·[0]?) hz
    have z1 := congrArg (·[1]?) hz
    simp only [List.getElem?_take, List.getElem?_drop] at z0 z1
    exact ⟨by rw [World.var?_cell hg hvar (2 * i), ← Array.getElem?_toList]; simpa [Nat.mul_comm] using z0, by rw [World.var?_cell hg hvar (2 * i + 1), ← Array.getElem?_toList]; simpa [Nat.mul_comm] using z1⟩
end Go.Proofs.YtampdbkafkcfdaaGreatDoor.printKnown

namespace Go.Proofs.YtampdbkafkcfdaaGreatDoor.printKnown
open Go.ChangeShapes Go.WideShapes Go.ChangeAt Go.RowKit
open Go.ChangeMaps (open_string)
set_option linter.unusedVariables false

theorem own : ownKnob Tryz.prog.godebug = none := by kernel_rfl
theorem laidOut : laidOutB Tryz.prog = true := by kernel_rfl

set_option maxRecDepth 100000 in
set_option maxHeartbeats 4000000 in
theorem lifted (os : Os) (started : os.Started) (H : Type) (enc : TypeId × Value → H) :
    ReturnsInHanded {} Tryz.checked os 4 .any (fun w args => (Rows.printKnownSpec.pre enc Tryz.prog Tryz.f4 [] false w args ∧ laidMetH Tryz.prog laidL w) ∧ sizedMet enc Tryz.prog Tryz.f4 (OpenSpec.ofChange Rows.printKnownSpec) false w args)
      (Rows.printKnownSpec.post enc Tryz.prog Tryz.f4 false true false false) := by
  refine returnsInHanded_of_change_and (C := Tryz.checked) (X := fun w _ => laidMetH Tryz.prog laidL w) (fun _ _ _ hh h => h.of_heap hh) own started (by kernel_rfl) Tryz.func4
    (ChangeSpec.witness_shaped (enc := enc) (C := Tryz.checked) (os := os) (X := fun w _ => laidMetH Tryz.prog laidL w) false (laidW os) #[] 8 (laidW_os os)
      (World.shaped_of_ZipB (by kernel_rfl) (by kernel_rfl)) (by kernel_rfl) (by kernel_rfl) (by kernel_rfl) (laidW_met os _)) ?_
  intro W base args ds gs before hval0 hW hcnd hsz hL0 _
  have hval : ∀ (j : Nat) t v, Tryz.f4.params[j]? = some t → args[j]? = some v → Value.okWide Tryz.prog W .any base t v := hval0
  have hW' := hW
  obtain ⟨p, q, hA0, hV, rfl, hfz, hnd⟩ := hW
  have hA : DataW.TrodAll enc Tryz.prog W 0 (fun _ => true) true Tryz.f4.params.toList args.toList ds p := hA0
  rw [Tryz.params4] at hA hval
  obtain ⟨rfl, rfl, rfl⟩ := trodAll_none hA
  clear hA0 hval0
  obtain ⟨rfl, rfl⟩ := trodVars_none hV
  refine (printknown_any W (tabsU_ofH hL0) (powTab_ofH hL0) (laidT_ofH hL0)).mono fun e W' ⟨he, hb⟩ => ?_
  exact ⟨_, he, law_post laidOut (by decide +kernel) rfl Tryz.underlying4 rfl (fun l hl => by match l, hl with | [], _ => rfl) hW' hb⟩

theorem said : Rows.PrintKnownSaid :=
  OpenClaim.holds_of_wide 4 Tryz.f4 rfl rfl rfl rfl rfl rfl rfl ⟨rfl, rfl, rfl, rfl, rfl⟩ rfl rfl rfl rfl rfl (by kernel_rfl) Tryz.func4 (by kernel_rfl)
    (of_decide_eq_true (by kernel_rfl)) (by unfold Func.isWrapper; first | (rw [if_pos (by decide +kernel)]; kernel_rfl) | (rw [if_neg (by decide +kernel)]; exact ⟨rfl, rfl⟩))
    (fun os started H enc _ => lifted os started H enc)

theorem plain (f : FuncId) (fn : Func) (hf : Tryz.pinned.checked.prog.funcNamed "busbar/busbarlaw07.PrintKnown" = some f) (hfn : Tryz.pinned.checked.prog.funcs[f]? = some fn) :
    true = Tryz.pinned.checked.prog.looks [] ∧ ∀ (j : Nat) t, fn.params[j]? = some t → Tryz.pinned.checked.prog.wantsStandIn t = false := by
  obtain rfl : f = 4 := Option.some.inj ((show Tryz.prog.funcNamed "busbar/busbarlaw07.PrintKnown" = some 4 by kernel_rfl).symm.trans hf) |>.symm
  obtain rfl : fn = Tryz.f4 := (Option.some.inj (Tryz.func4.symm.trans hfn)).symm
  refine ⟨by kernel_rfl, fun j t ht => ?_⟩
  have hall : Tryz.f4.params.all (fun t => Tryz.prog.wantsStandIn t == false) = true := by kernel_rfl
  have := Array.all_eq_true'.1 hall t (Array.mem_of_getElem? ht)
  exact (show Tryz.prog.wantsStandIn t = false by simpa using this)

theorem proved : Rows.PrintKnownCardSaid :=
  Claim7.holds_tied_plain_at .later [] _ _ _ _ said (fun _ h => by cases h) (by kernel_rfl) (fun _ h => by cases h) printKnown_row_tie rfl ⟨rfl, rfl⟩ (by kernel_rfl) rfl plain (by kernel_rfl)
#print axioms proved
end Go.Proofs.YtampdbkafkcfdaaGreatDoor.printKnown
