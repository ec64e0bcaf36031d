/-
  PROVED: busbar/busbarlaw07.PrintBack: for every input the law returns true and leaves its arguments as they were. No condition.
-/
import Derived.Test.YtkblpaabknjckaaGreatDoorCards
import Derived.Test.YtkblpaabknjckaaGreatDoorTie
import Derived.Test.YtkblpaabknjckaaGreatDoorPlain
import Derived.Test.YtkblpaabknjckaaGreatDoorOpenDb
import Derived.Test.YtkblpaabknjckaaGreatDoorTxtP
import Derived.Test.YtkblpaabknjckaaGreatDoorChrE
import Derived.Test.YtkblpaabknjckaaGreatDoorPrsS
import Derived.Test.YtkblpaabknjckaaGreatDoorParX
import Derived.Lay
import Derived.Stop.LaidErr
import Derived.LaidLaws
import Derived.LaidHandle
import Derived.LaidMore
import Derived.MakeChecks
import Derived.Stop.Joined
import Derived.RowKit
import Derived.RowKitTokens
import Derived.ChangeSame
import Derived.ChangeVars
import Derived.JoinedOf
import Derived.Lib.LaidTab
import Derived.Lib.LaidU8
import Derived.SevenTiedAt

namespace Go.Proofs.YtkblpaabknjckaaGreatDoor.printBack
set_option linter.unusedVariables false
open Go.ChangeShapes Go.WideShapes Go.ChangeAt Go.RowKit

abbrev laidL : List (String × DataW Unit) := [("math/bits.deBruijn32tab", Rows.laid_math_bits_deBruijn32tab), ("math/bits.deBruijn64tab", Rows.laid_math_bits_deBruijn64tab), ("internal/strconv.uint64pow10", Rows.laid_internal_strconv_uint64pow10), ("unicode/utf8.acceptRanges", Rows.laid_unicode_utf8_acceptRanges), ("errors.errorType", Rows.laid_errors_errorType), ("strconv.ErrRange", Rows.laid_strconv_ErrRange), ("strconv.ErrSyntax", Rows.laid_strconv_ErrSyntax), ("unicode/utf8.first", Rows.laid_unicode_utf8_first)]
abbrev laidD : List (String × DataW Unit) := [("math/bits.deBruijn32tab", Rows.laid_math_bits_deBruijn32tab), ("math/bits.deBruijn64tab", Rows.laid_math_bits_deBruijn64tab), ("internal/strconv.uint64pow10", Rows.laid_internal_strconv_uint64pow10), ("unicode/utf8.acceptRanges", Rows.laid_unicode_utf8_acceptRanges), ("strconv.ErrRange", Rows.laid_strconv_ErrRange), ("strconv.ErrSyntax", Rows.laid_strconv_ErrSyntax), ("unicode/utf8.first", Rows.laid_unicode_utf8_first)]
abbrev laidE : List (String × DataW Unit) := [("errors.errorType", Rows.laid_errors_errorType)]
noncomputable def laidB (os : Os) : World :=
  let w0 := World.holding Tryz.prog os ⟨#[], #[], []⟩
  { w0 with heap := w0.heap.modify 0 fun
      | .cells _ t frozen => .cells #[.iface 146 (.agg #[.pointer (some ⟨11, 25, none⟩)])] t frozen
      | o => o }
noncomputable def laidW (os : Os) : World := (laidB os).layVars Tryz.prog laidD
theorem laidW_os (os : Os) : (laidW os).os = os := by unfold laidW; rw [World.layVars_os]; rfl
theorem laidD_met (os : Os) : laidMet Tryz.prog laidD (laidW os) := by
  have e1 : (laidD.filter fun x => (laidD.map (·.1)).contains x.1) = laidD := List.filter_eq_self.2 fun x hx => List.contains_iff_mem.2 (List.mem_map.2 ⟨x, hx, rfl⟩)
  have e2 : (laidD.filter fun x => !(laidD.map (·.1)).contains x.1) = [] := List.filter_eq_nil_iff.2 fun x hx => by rw [List.contains_iff_mem.2 (List.mem_map.2 ⟨x, hx, rfl⟩)]; simp
  exact laidMet_layVars (w0 := laidB os) (laidD.map (·.1)) [] (by rw [e1]; rfl) (by rw [e1]; kernel_rfl) (by rw [e1]; kernel_rfl) (by rw [e2]; exact LaidIn.none)
theorem laidD_met' (os : Os) (args : Array Value) : laidMet Tryz.prog laidD ((laidW os).forCall (fun _ _ => 0) ⟨#[], args, []⟩).memory :=
  (laidD_met os).of_heap (by simp [World.memory, World.forCall, Input.heap])
theorem laidW_met (os : Os) (args : Array Value) : laidMetH Tryz.prog laidL ((laidW os).forCall (fun _ _ => 0) ⟨#[], args, []⟩).memory :=
  laidMetH_of_parts (laidD_met' os args) (by kernel_rfl)
theorem laidD_of {W : World} (h : laidMetH Tryz.prog laidL W) : laidMet Tryz.prog laidD W ∧ handlesMet Tryz.prog laidE W := h
theorem perr_global : Tryz.prog.globalNamed "errors.errorType" = some 0 := by kernel_rfl
theorem perr_rt : (Tryz.prog.cutTypes.find? (·.1 == "internal/reflectlite.rtype")).map (·.2) = some 146 := by kernel_rfl
theorem perr_row : ((List.range Tryz.prog.types.size).filter fun t => Tryz.prog.rowNamed t [101, 114, 114, 111, 114]) = [25] := by kernel_rfl
theorem perr_handle : typeHandle Tryz.prog 25 = .pointer (some ⟨11, 25, none⟩) := by kernel_rfl
theorem laidT_ofH {W : World} (h0 : laidMetH Tryz.prog laidL W) : LaidT W := by
  have h := (laidD_of h0).2
  obtain ⟨name, u, ty, e1, e2, e3, e4, e5⟩ := h _ (List.mem_singleton.2 rfl)
  have en : name = [101, 114, 114, 111, 114] := (Option.some.inj e1).symm
  subst en
  obtain rfl := Option.some.inj (perr_rt.symm.trans e2)
  have hm : ty ∈ (List.range Tryz.prog.types.size).filter fun t => Tryz.prog.rowNamed t [101, 114, 114, 111, 114] := List.mem_filter.2 ⟨List.mem_range.2 e3, e4⟩
  rw [perr_row] at hm
  obtain rfl := List.mem_singleton.1 hm
  rw [perr_handle] at e5
  simpa [LaidT] using World.var?_cell perr_global e5 0
theorem laidMet_ofH {W : World} (h0 : laidMetH Tryz.prog laidL W) : laidMet Tryz.prog laidD W := (laidD_of h0).1
theorem powGl : Tryz.prog.globalNamed "internal/strconv.uint64pow10" = some 4 := by kernel_rfl
theorem powTab_ofH {W : World} (h0 : laidMetH Tryz.prog laidL W) : PowTab W := by
  have h := laidMet_ofH h0
  have h2 := laidMet.tail (laidMet.tail (h))
  exact Lib.tabIs_of_head (powGl) (t := 252) (e := 85) (n := 20) (by kernel_rfl) Tryz.underlying252 Tryz.underlying85 (by kernel_rfl) (by kernel_rfl) h2
theorem gFirst : Tryz.prog.globalNamed "unicode/utf8.first" = some 5 := by kernel_rfl
theorem gAcc : Tryz.prog.globalNamed "unicode/utf8.acceptRanges" = some 6 := by kernel_rfl
theorem tFirst : (Tryz.prog.globals[5]?).map (·.type) = some 258 := by kernel_rfl
theorem tAcc : (Tryz.prog.globals[6]?).map (·.type) = some 261 := by kernel_rfl
theorem c8 : Tryz.prog.cellsOf 5 = 1 := by kernel_rfl
theorem cF : Tryz.prog.cellsOf 258 = 256 := by kernel_rfl
theorem cR : Tryz.prog.cellsOf 260 = 2 := by kernel_rfl
theorem eFirst : Rows.laid_unicode_utf8_first = Lib.firstData := by kernel_rfl
theorem eAcc : Rows.laid_unicode_utf8_acceptRanges = Lib.acceptData := by kernel_rfl
theorem tabsU_ofH {W : World} (h0 : laidMetH Tryz.prog laidL W) : TabsU W := by
  have hL := laidMet_ofH h0
  have r1 : Lib.VarReads Tryz.prog W "unicode/utf8.first" Rows.laid_unicode_utf8_first := Lib.laidMet.reads hL (.tail _ (.tail _ (.tail _ (.tail _ (.tail _ (.tail _ (.head _)))))))
  rw [eFirst] at r1
  have r2 : Lib.VarReads Tryz.prog W "unicode/utf8.acceptRanges" Rows.laid_unicode_utf8_acceptRanges := Lib.laidMet.reads hL (.tail _ (.tail _ (.tail _ (.head _))))
  rw [eAcc] at r2
  constructor
  · intro c hc
    obtain ⟨g, t, cs, fuel, p, hg, hty, hvar, hd⟩ := r1
    obtain rfl : 5 = g := Option.some.inj (gFirst.symm.trans hg)
    obtain rfl : 258 = t := Option.some.inj (tFirst.symm.trans hty)
    have hcs := Lib.cells_of_tab Tryz.underlying258 Tryz.underlying5 c8 cF hd
    rw [World.var?_cell hg hvar c, ← Array.getElem?_toList, hcs]
    simp [Lib.firstTab, hc]
  · intro i hi
    obtain ⟨g, t, cs, fuel, p, hg, hty, hvar, hd⟩ := r2
    obtain rfl : 6 = g := Option.some.inj (gAcc.symm.trans hg)
    obtain rfl : 261 = t := Option.some.inj (tAcc.symm.trans hty)
    obtain ⟨fu, d, q, h1, h2⟩ := Lib.array_elem Tryz.underlying261 hd i hi
    rw [List.getElem?_map, List.getElem?_range hi] at h1
    obtain rfl := Option.some.inj h1
    rw [cR] at h2
    have hz := Lib.ints_of_struct (k := .u8) Tryz.underlying260 (fun j f hj => by
      rcases j with _ | _ | j
      · simp at hj; subst hj; exact ⟨Tryz.underlying5, rfl, c8⟩
      · simp at hj; subst hj; exact ⟨Tryz.underlying5, rfl, c8⟩
      · simp at hj) cR h2
    have z0 := congrArg (·[0]?) hz
    have z1 := congrArg (·[1]?) hz
    simp only [List.getElem?_take, List.getElem?_drop] at z0 z1
    exact ⟨by rw [World.var?_cell hg hvar (2 * i), ← Array.getElem?_toList]; simpa [Nat.mul_comm] using z0, by rw [World.var?_cell hg hvar (2 * i + 1), ← Array.getElem?_toList]; simpa [Nat.mul_comm] using z1⟩
theorem sStar : "*" ++ "errors.errorString" = "*errors.errorString" := by decide
theorem sRow (u : TypeId) (h : Tryz.prog.typeName? 3 u = some "*errors.errorString") : u = 278 :=
  typeName_ptr_named (nm := "errors.errorString") (by rw [sStar]; kernel_rfl) (by kernel_rfl) (by decide) u (by rw [sStar]; exact h)
theorem sG1 : Tryz.prog.globalNamed "strconv.ErrRange" = some 3 := by kernel_rfl
theorem sG2 : Tryz.prog.globalNamed "strconv.ErrSyntax" = some 2 := by kernel_rfl
theorem sT1 : (Tryz.prog.globals[3]?).map (·.type) = some 25 := by kernel_rfl
theorem sT2 : (Tryz.prog.globals[2]?).map (·.type) = some 25 := by kernel_rfl
theorem sentP_ofH {W : World} (h0 : laidMetH Tryz.prog laidL W) : SentP W := by
  have hL := laidMet_ofH h0
  obtain ⟨a, s, h1, -⟩ := laid_sentinel (laidMet.tail (laidMet.tail (laidMet.tail (laidMet.tail hL)))) sG1 sT1 Tryz.underlying25 sRow Tryz.underlying278 Tryz.underlying280 rfl rfl Tryz.underlying9 (by kernel_rfl) (by kernel_rfl)
  obtain ⟨b, t, h2, -⟩ := laid_sentinel (laidMet.tail (laidMet.tail (laidMet.tail (laidMet.tail (laidMet.tail hL))))) sG2 sT2 Tryz.underlying25 sRow Tryz.underlying278 Tryz.underlying280 rfl rfl Tryz.underlying9 (by kernel_rfl) (by kernel_rfl)
  exact ⟨⟨_, by simpa using World.var?_cell sG2 h2 0, .inr ⟨_, _, rfl⟩⟩, ⟨_, by simpa using World.var?_cell sG1 h1 0, .inr ⟨_, _, rfl⟩⟩⟩
theorem fileW_ofH {W : World} (h0 : laidMetH Tryz.prog laidL W) : FileW W := ⟨tabsU_ofH h0, powTab_ofH h0, sentP_ofH h0, laidT_ofH h0⟩
end Go.Proofs.YtkblpaabknjckaaGreatDoor.printBack

namespace Go.Proofs.YtkblpaabknjckaaGreatDoor.printBack
open Go.ChangeShapes Go.WideShapes Go.ChangeAt Go.RowKit
open Go.ChangeMaps (open_string)
set_option linter.unusedVariables false

theorem own : ownKnob Tryz.prog.godebug = none := by kernel_rfl
theorem laidOut : laidOutB Tryz.prog = true := by kernel_rfl

set_option maxRecDepth 100000 in
set_option maxHeartbeats 4000000 in
theorem lifted (os : Os) (started : os.Started) (H : Type) (enc : TypeId × Value → H) :
    ReturnsInHanded {} Tryz.checked os 4 .any (fun w args => (Rows.printBackSpec.pre enc Tryz.prog Tryz.f4 [] false w args ∧ laidMetH Tryz.prog laidL w) ∧ sizedMet enc Tryz.prog Tryz.f4 (OpenSpec.ofChange Rows.printBackSpec) false w args)
      (Rows.printBackSpec.post enc Tryz.prog Tryz.f4 false true false false) := by
  refine returnsInHanded_of_change_and (C := Tryz.checked) (X := fun w _ => laidMetH Tryz.prog laidL w) (fun _ _ _ hh h => h.of_heap hh) own started (by kernel_rfl) Tryz.func4
    (ChangeSpec.witness_shaped (enc := enc) (C := Tryz.checked) (os := os) (X := fun w _ => laidMetH Tryz.prog laidL w) false (laidW os) #[.agg #[.bool false, .int .i64 0, .int .i64 0, .string ⟨#[]⟩, .int .i64 0, .int .i64 0, .slice none 0 0, .slice none 0 0, .slice none 0 0]] 8 (laidW_os os)
      (World.shaped_of_ZipB (by kernel_rfl) (by kernel_rfl)) (by kernel_rfl) (by kernel_rfl) (by kernel_rfl) (laidW_met os _)) ?_
  intro W base args ds gs before hval0 hW hcnd hsz hL0 _
  have hval : ∀ (j : Nat) t v, Tryz.f4.params[j]? = some t → args[j]? = some v → Value.okWide Tryz.prog W .any base t v := hval0
  have hW' := hW
  obtain ⟨p, q, hA0, hV, rfl, hfz, hnd⟩ := hW
  have hA : DataW.TrodAll enc Tryz.prog W 0 (fun _ => true) true Tryz.f4.params.toList args.toList ds p := hA0
  rw [Tryz.params4] at hA hval
  obtain ⟨v0, vs0, d0, ds0, p0, q0, hargs, rfl, rfl, h0, r0⟩ := trodAll_cons hA
  obtain ⟨rfl, rfl, rfl⟩ := trodAll_nil r0
  obtain rfl : args = #[v0] := by cases args; simp_all
  obtain ⟨rfl, rfl⟩ := trodVars_none hV
  obtain ⟨cs0, rfl, -⟩ := okWide_struct Tryz.underlying38 (hval 0 _ _ rfl rfl)
  obtain ⟨fu0, h0⟩ := h0
  obtain ⟨x0, rd0, -, wf0⟩ := open_db h0
  refine (printback_any x0 wf0 W cs0 rd0 (fileW_ofH hL0)).mono fun e W' ⟨he, hb⟩ => ?_
  exact ⟨_, he, law_post laidOut (by decide +kernel) rfl Tryz.underlying4 rfl (fun l hl => by match l, hl with | [d0], _ => rfl) hW' hb⟩

theorem j1 : (Rows.printBackRow.wf (OpenSpec.ofChange Rows.printBackSpec)) = true := by kernel_rfl
theorem j2 : (laidOutB (Tryz.pinned.checked.prog)) = true := by kernel_rfl
theorem j3 : (mapsRowed (Tryz.pinned.checked.prog)) = true := by kernel_rfl
theorem j4 : ((Tryz.f4).params.all ((Tryz.pinned.checked.prog).readableRec ·)) = true := by kernel_rfl
theorem j5 : (namedTie (Tryz.pinned.checked.prog) Rows.printBackRow.named Rows.printBackSpec.vars) = true := by kernel_rfl
theorem j6 : ((Rows.printBackRow.stops == [])) = true := by kernel_rfl
theorem j7 : (((Tryz.pinned.checked.prog).stops == [])) = true := by kernel_rfl
theorem j8 : ((Rows.printBackRow.knobs == [])) = true := by kernel_rfl
theorem j9 : (((Tryz.pinned.checked.prog).stopKnobs == [])) = true := by kernel_rfl
theorem j10 : ((Rows.printBackRow.inPlace == (Tryz.pinned.checked.prog).inPlace 4)) = true := by kernel_rfl
theorem j11 : ((Rows.printBackRow.unfollowed == (Tryz.pinned.checked.prog).unfollowed 4)) = true := by kernel_rfl
theorem j12 : ((Rows.printBackRow.recurses == (Tryz.pinned.checked.prog).recurses 4)) = true := by kernel_rfl
theorem j13 : ((Rows.printBackRow.named == (Tryz.pinned.checked.prog).varsNamed 4)) = true := by kernel_rfl
theorem j14 : ((Rows.printBackRow.maps == ((Tryz.f4).params.toList ++ Rows.printBackSpec.plain.varTypes (Tryz.pinned.checked.prog)).any ((Tryz.pinned.checked.prog).mapsRec ·))) = true := by kernel_rfl
theorem j15 : ((Rows.printBackRow.ifaces == ((Tryz.f4).params.toList ++ Rows.printBackSpec.plain.varTypes (Tryz.pinned.checked.prog)).any ((Tryz.pinned.checked.prog).ifacesRec ·))) = true := by kernel_rfl
theorem j16 : ((Rows.printBackRow.mapsOut == (Tryz.pinned.checked.prog).mapsAmong (Tryz.f4).resultTypes.toList)) = true := by kernel_rfl
theorem j17 : ((Rows.printBackRow.loops == ((Tryz.f4).params.toList ++ Rows.printBackSpec.plain.varTypes (Tryz.pinned.checked.prog)).any ((Tryz.pinned.checked.prog).loopsFrom ·))) = true := by kernel_rfl
theorem j18 : ((Rows.printBackRow.wideKeys == ((Tryz.f4).params.toList ++ Rows.printBackSpec.plain.varTypes (Tryz.pinned.checked.prog) ++ (Tryz.f4).resultTypes.toList).any ((Tryz.pinned.checked.prog).wideKeysFrom ·))) = true := by kernel_rfl
theorem j19 : (Rows.printBackSpec.vars.all ((Tryz.pinned.checked.prog).varReadable ·)) = true := by kernel_rfl
theorem j20 : ((Tryz.f4).resultTypes.all (fun t => (Tryz.pinned.checked.prog).readableRec t && decide (t < (Tryz.pinned.checked.prog).types.size))) = true := by kernel_rfl
theorem j21 : ((Rows.printBackRow.ifacesOut == (Tryz.f4).resultTypes.toList.any ((Tryz.pinned.checked.prog).ifacesRec ·))) = true := by kernel_rfl
theorem j22 : ((Rows.printBackRow.loopsOut == (Tryz.f4).resultTypes.toList.any ((Tryz.pinned.checked.prog).loopsFrom ·))) = true := by kernel_rfl
theorem j23 : ((Rows.printBackRow.plainKeys == (Tryz.pinned.checked.prog).plainKeys)) = true := by kernel_rfl
theorem j24 : (Rows.printBackRow.shortTexts.isNone) = true := by kernel_rfl
theorem j25 : ((Tryz.pinned.checked.prog).stopsHeard) = true := by kernel_rfl
theorem j26 : ((Tryz.pinned.checked.prog).mayEnter) = true := by kernel_rfl
theorem j27 : ((Rows.printBackRow.lifted == (Tryz.pinned.checked.prog).liftsFinal)) = true := by kernel_rfl
theorem j28 : (((Tryz.pinned.checked.prog).make == some Rows.printBackRow.make)) = true := by kernel_rfl
theorem j29 : ((Rows.printBackRow.kinds == (if Rows.printBackRow.domain.isEmpty then [] else (Tryz.f4).params.toList.map fun t => match (Tryz.pinned.checked.prog).underlying t with | some (.int k) => some k | _ => none))) = true := by kernel_rfl
theorem j30 : ((Rows.printBackRow.pinned == Rows.printBackRow.pinnedBy)) = true := by kernel_rfl
theorem j31 : ((Rows.printBackRow.veiled == ((Tryz.f4).params.toList ++ Rows.printBackSpec.plain.varTypes (Tryz.pinned.checked.prog) ++ (Tryz.f4).resultTypes.toList).any ((Tryz.pinned.checked.prog).veiledRec ·))) = true := by kernel_rfl
theorem j32 : (Rows.printBackRow.veiledFits (Tryz.pinned.checked.prog) (Tryz.f4).params.toList ((Tryz.f4).params.toList ++ Rows.printBackSpec.plain.varTypes (Tryz.pinned.checked.prog) ++ (Tryz.f4).resultTypes.toList)) = true := by kernel_rfl
theorem bi {a b : Bool} (h : a = true) (h2 : b = true) : (a && b) = true := by rw [h, h2]; rfl
set_option maxRecDepth 100000 in
theorem jf : joinedFacts (Tryz.pinned.checked.prog) 4 Tryz.f4 Rows.printBackSpec Rows.printBackRow = true := by
  unfold joinedFacts
  exact bi (bi (bi (bi (bi (bi (bi (bi (bi (bi (bi (bi (bi (bi (bi (bi (bi (bi (bi (bi (bi (bi (bi (bi (bi (bi (bi (bi (bi (bi (bi j1 j2) j3) j4) j5) j6) j7) j8) j9) j10) j11) j12) j13) j14) j15) j16) j17) j18) j19) j20) j21) j22) j23) j24) j25) j26) j27) j28) j29) j30) j31) j32

theorem said : Rows.PrintBackSaid :=
  OpenClaim.holds_of_wide 4 Tryz.f4 rfl rfl rfl rfl rfl rfl rfl ⟨rfl, rfl, rfl, rfl, rfl⟩ rfl rfl rfl rfl rfl (by kernel_rfl) Tryz.func4 jf
    (of_decide_eq_true (by kernel_rfl)) (by unfold Func.isWrapper; first | (rw [if_pos (by decide +kernel)]; kernel_rfl) | (rw [if_neg (by decide +kernel)]; exact ⟨rfl, rfl⟩))
    (fun os started H enc _ => lifted os started H enc)

theorem plain (f : FuncId) (fn : Func) (hf : Tryz.pinned.checked.prog.funcNamed "busbar/busbarlaw07.PrintBack" = some f) (hfn : Tryz.pinned.checked.prog.funcs[f]? = some fn) :
    true = Tryz.pinned.checked.prog.looks [] ∧ ∀ (j : Nat) t, fn.params[j]? = some t → Tryz.pinned.checked.prog.wantsStandIn t = false := by
  obtain rfl : f = 4 := Option.some.inj ((show Tryz.prog.funcNamed "busbar/busbarlaw07.PrintBack" = some 4 by kernel_rfl).symm.trans hf) |>.symm
  obtain rfl : fn = Tryz.f4 := (Option.some.inj (Tryz.func4.symm.trans hfn)).symm
  refine ⟨by kernel_rfl, fun j t ht => ?_⟩
  have hall : Tryz.f4.params.all (fun t => Tryz.prog.wantsStandIn t == false) = true := by kernel_rfl
  have := Array.all_eq_true'.1 hall t (Array.mem_of_getElem? ht)
  exact (show Tryz.prog.wantsStandIn t = false by simpa using this)

theorem proved : Rows.PrintBackCardSaid :=
  Claim7.holds_tied_plain_at .later [] _ _ _ _ said (fun _ h => by cases h) (by kernel_rfl) (fun _ h => by cases h) printBack_row_tie rfl ⟨rfl, rfl⟩ (by kernel_rfl) rfl plain (by kernel_rfl)
#print axioms proved
end Go.Proofs.YtkblpaabknjckaaGreatDoor.printBack
