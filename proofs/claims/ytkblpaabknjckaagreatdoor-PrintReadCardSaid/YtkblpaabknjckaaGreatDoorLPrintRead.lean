/-
  PROVED: busbar/busbarlaw07.PrintRead: for every input the law returns true and leaves its arguments as they were. No condition.
-/
import Derived.Test.YtkblpaabknjckaaGreatDoorCards
import Derived.Test.YtkblpaabknjckaaGreatDoorTie
import Derived.Test.YtkblpaabknjckaaGreatDoorPlain
import Derived.Test.YtkblpaabknjckaaGreatDoorTxtP
import Derived.Test.YtkblpaabknjckaaGreatDoorChrE
import Derived.Test.YtkblpaabknjckaaGreatDoorPrsS
import Derived.Lay
import Derived.Stop.LaidErr
import Derived.LaidLaws
import Derived.LaidHandle
import Derived.LaidMore
import Derived.MakeChecks
import Derived.Stop.Joined
import Derived.RowKit
import Derived.RowKitTokens
import Derived.ChangeSame
import Derived.ChangeVars
import Derived.JoinedOf
import Derived.Lib.LaidTab
import Derived.Lib.LaidU8
import Derived.Test.YtkblpaabknjckaaGreatDoorReaA
import Derived.SevenTiedAt
set_option maxHeartbeats 128000000
set_option linter.unusedVariables false
namespace Go.Proofs.YtkblpaabknjckaaGreatDoor.printRead
open Go.Proofs.Tryz
open Go.ChangeShapes Go.WideShapes Go.ChangeAt Go.RowKit
abbrev laidL : List (String × DataW Unit) := [("math/bits.deBruijn32tab", Rows.laid_math_bits_deBruijn32tab), ("math/bits.deBruijn64tab", Rows.laid_math_bits_deBruijn64tab), ("internal/strconv.uint64pow10", Rows.laid_internal_strconv_uint64pow10), ("unicode/utf8.acceptRanges", Rows.laid_unicode_utf8_acceptRanges), ("errors.errorType", Rows.laid_errors_errorType), ("strconv.ErrRange", Rows.laid_strconv_ErrRange), ("strconv.ErrSyntax", Rows.laid_strconv_ErrSyntax), ("unicode/utf8.first", Rows.laid_unicode_utf8_first)]
abbrev laidD : List (String × DataW Unit) := [("math/bits.deBruijn32tab", Rows.laid_math_bits_deBruijn32tab), ("math/bits.deBruijn64tab", Rows.laid_math_bits_deBruijn64tab), ("internal/strconv.uint64pow10", Rows.laid_internal_strconv_uint64pow10), ("unicode/utf8.acceptRanges", Rows.laid_unicode_utf8_acceptRanges), ("strconv.ErrRange", Rows.laid_strconv_ErrRange), ("strconv.ErrSyntax", Rows.laid_strconv_ErrSyntax), ("unicode/utf8.first", Rows.laid_unicode_utf8_first)]
abbrev laidE : List (String × DataW Unit) := [("errors.errorType", Rows.laid_errors_errorType)]
noncomputable def laidB (os:Os):World:=
 let w0:=World.holding prog os ⟨#[],#[],[]⟩
 { w0 with heap:=w0.heap.modify 0 fun
   | .cells _ t frozen=>.cells #[.iface 146 (.agg #[.pointer (some ⟨11,25,none⟩)])] t frozen
   | o=>o }
noncomputable def laidW (os:Os):World:=(laidB os).layVars prog laidD
theorem laidW_os (os:Os):(laidW os).os=os:=by unfold laidW;rw[World.layVars_os];rfl
theorem laidD_met (os:Os):laidMet prog laidD (laidW os):=by
 have e1:(laidD.filter fun x=>(laidD.map (·.1)).contains x.1)=laidD:=List.filter_eq_self.2 fun x hx=>List.contains_iff_mem.2 (List.mem_map.2 ⟨x,hx,rfl⟩)
 have e2:(laidD.filter fun x=>!(laidD.map (·.1)).contains x.1)=[]:=List.filter_eq_nil_iff.2 fun x hx=>by rw[List.contains_iff_mem.2 (List.mem_map.2 ⟨x,hx,rfl⟩)];simp
 exact laidMet_layVars (w0:=laidB os) (laidD.map (·.1)) [] (by rw[e1];rfl) (by rw[e1];kernel_rfl) (by rw[e1];kernel_rfl) (by rw[e2];exact LaidIn.none)
theorem laidD_met' (os:Os) (args:Array Value):laidMet prog laidD ((laidW os).forCall (fun _ _=>0) ⟨#[],args,[]⟩).memory:=
 (laidD_met os).of_heap (by simp[World.memory,World.forCall,Input.heap])
theorem laidW_met (os:Os) (args:Array Value):laidMetH prog laidL ((laidW os).forCall (fun _ _=>0) ⟨#[],args,[]⟩).memory:=
 laidMetH_of_parts (laidD_met' os args) (by kernel_rfl)
theorem laidD_of {W:World} (h:laidMetH prog laidL W):laidMet prog laidD W∧handlesMet prog laidE W:=h
theorem perr_global : prog.globalNamed "errors.errorType" = some 0 := by kernel_rfl
theorem perr_rt : (prog.cutTypes.find? (·.1 == "internal/reflectlite.rtype")).map (·.2) = some 146 := by kernel_rfl
theorem perr_row:((List.range prog.types.size).filter fun t=>prog.rowNamed t [101,114,114,111,114])=[25]:=by kernel_rfl
theorem perr_handle:typeHandle prog 25=.pointer (some ⟨11,25,none⟩):=by kernel_rfl
theorem laidT_ofH {W:World} (h0:laidMetH prog laidL W):LaidT W:=by
 have h:=(laidD_of h0).2;obtain⟨name,u,ty,e1,e2,e3,e4,e5⟩:=h _ (List.mem_singleton.2 rfl);have en:name=[101,114,114,111,114]:=(Option.some.inj e1).symm;subst en;obtain rfl:=Option.some.inj (perr_rt.symm.trans e2);have hm:ty∈(List.range prog.types.size).filter fun t=>prog.rowNamed t [101,114,114,111,114]:=List.mem_filter.2 ⟨List.mem_range.2 e3,e4⟩
 rw[perr_row]at hm;obtain rfl:=List.mem_singleton.1 hm;rw[perr_handle]at e5
 simpa [LaidT]using World.var?_cell perr_global e5 0
theorem laidMet_ofH {W:World} (h0:laidMetH prog laidL W):laidMet prog laidD W:=(laidD_of h0).1
theorem powGl : prog.globalNamed "internal/strconv.uint64pow10" = some 4 := by kernel_rfl
theorem powTab_ofH {W:World} (h0:laidMetH prog laidL W):PowTab W:=by
 have h:=laidMet_ofH h0;have h2:=laidMet.tail (laidMet.tail (h));exact Lib.tabIs_of_head (powGl) (t:=252) (e:=85) (n:=20) (by kernel_rfl) underlying252 underlying85 (by kernel_rfl) (by kernel_rfl) h2
theorem gFirst : prog.globalNamed "unicode/utf8.first" = some 5 := by kernel_rfl
theorem gAcc : prog.globalNamed "unicode/utf8.acceptRanges" = some 6 := by kernel_rfl
theorem tFirst:(prog.globals[5]?).map (·.type)=some 258:=by kernel_rfl
theorem tAcc:(prog.globals[6]?).map (·.type)=some 261:=by kernel_rfl
theorem c8:prog.cellsOf 5=1:=by kernel_rfl
theorem cF:prog.cellsOf 258=256:=by kernel_rfl
theorem cR:prog.cellsOf 260=2:=by kernel_rfl
theorem eFirst:Rows.laid_unicode_utf8_first=Lib.firstData:=by kernel_rfl
theorem eAcc:Rows.laid_unicode_utf8_acceptRanges=Lib.acceptData:=by kernel_rfl
theorem tabsU_ofH {W:World} (h0:laidMetH prog laidL W):TabsU W:=by
 have hL:=laidMet_ofH h0;have r1 : Lib.VarReads prog W "unicode/utf8.first" Rows.laid_unicode_utf8_first := Lib.laidMet.reads hL (.tail _ (.tail _ (.tail _ (.tail _ (.tail _ (.tail _ (.head _)))))))
 rw[eFirst]at r1;have r2 : Lib.VarReads prog W "unicode/utf8.acceptRanges" Rows.laid_unicode_utf8_acceptRanges := Lib.laidMet.reads hL (.tail _ (.tail _ (.tail _ (.head _))))
 rw[eAcc]at r2;constructor
 ·intro c hc;obtain⟨g,t,cs,fuel,p,hg,hty,hvar,hd⟩:=r1;obtain rfl:5=g:=Option.some.inj (gFirst.symm.trans hg);obtain rfl:258=t:=Option.some.inj (tFirst.symm.trans hty);have hcs:=Lib.cells_of_tab underlying258 underlying5 c8 cF hd;rw[World.var?_cell hg hvar c,← Array.getElem?_toList,hcs];simp[Lib.firstTab,hc]
 ·intro i hi;obtain⟨g,t,cs,fuel,p,hg,hty,hvar,hd⟩:=r2;obtain rfl:6=g:=Option.some.inj (gAcc.symm.trans hg);obtain rfl:261=t:=Option.some.inj (tAcc.symm.trans hty);obtain⟨fu,d,q,h1,h2⟩:=Lib.array_elem underlying261 hd i hi;rw[List.getElem?_map,List.getElem?_range hi]at h1;obtain rfl:=Option.some.inj h1;rw[cR]at h2;have hz:=Lib.ints_of_struct (k:=.u8) underlying260 (fun j f hj=>by
   rcases j with _|_|j
   ·simp at hj;subst hj;exact⟨underlying5,rfl,c8⟩
   ·simp at hj;subst hj;exact⟨underlying5,rfl,c8⟩
   ·simp at hj) cR h2
  have z0:=congrArg (·[0]?) hz;have z1:=congrArg (·[1]?) hz;simp only[List.getElem?_take,List.getElem?_drop]at z0 z1;exact⟨by rw[World.var?_cell hg hvar (2*i),← Array.getElem?_toList];simpa [Nat.mul_comm]using z0,by rw[World.var?_cell hg hvar (2*i+1),← Array.getElem?_toList];simpa [Nat.mul_comm]using z1⟩
theorem sStar : "*" ++ "errors.errorString" = "*errors.errorString" := by decide
theorem sRow (u : TypeId) (h : prog.typeName? 3 u = some "*errors.errorString") : u = 278 :=
 typeName_ptr_named (nm := "errors.errorString") (by rw [sStar]; kernel_rfl) (by kernel_rfl) (by decide) u (by rw [sStar]; exact h)
theorem sG1 : prog.globalNamed "strconv.ErrRange" = some 3 := by kernel_rfl
theorem sG2 : prog.globalNamed "strconv.ErrSyntax" = some 2 := by kernel_rfl
theorem sT1:(prog.globals[3]?).map (·.type)=some 25:=by kernel_rfl
theorem sT2:(prog.globals[2]?).map (·.type)=some 25:=by kernel_rfl
theorem sentP_ofH {W:World} (h0:laidMetH prog laidL W):SentP W:=by
 have hL:=laidMet_ofH h0;obtain⟨a,s,h1,-⟩:=laid_sentinel (laidMet.tail (laidMet.tail (laidMet.tail (laidMet.tail hL)))) sG1 sT1 underlying25 sRow underlying278 underlying280 rfl rfl underlying9 (by kernel_rfl) (by kernel_rfl);obtain⟨b,t,h2,-⟩:=laid_sentinel (laidMet.tail (laidMet.tail (laidMet.tail (laidMet.tail (laidMet.tail hL))))) sG2 sT2 underlying25 sRow underlying278 underlying280 rfl rfl underlying9 (by kernel_rfl) (by kernel_rfl);exact⟨⟨_,by simpa using World.var?_cell sG2 h2 0,.inr ⟨_,_,rfl⟩⟩,⟨_,by simpa using World.var?_cell sG1 h1 0,.inr ⟨_,_,rfl⟩⟩⟩
theorem fileW_ofH {W:World} (h0:laidMetH prog laidL W):FileW W:=⟨tabsU_ofH h0,powTab_ofH h0,sentP_ofH h0,laidT_ofH h0⟩
end Go.Proofs.YtkblpaabknjckaaGreatDoor.printRead
namespace Go.Proofs.YtkblpaabknjckaaGreatDoor.printRead
open Go.Proofs.Tryz
open Go.ChangeShapes Go.WideShapes Go.ChangeAt Go.RowKit
open Go.ChangeMaps (open_string)
theorem own:ownKnob prog.godebug=none:=by kernel_rfl
theorem laidOut:laidOutB prog=true:=by kernel_rfl
set_option maxRecDepth 100000 in theorem lifted (os : Os) (started : os.Started) (H : Type) (enc : TypeId × Value → H) :
  ReturnsInHanded {} Tryz.checked os 3 .any (fun w args=>(Rows.printReadSpec.pre enc prog Tryz.f3 [] false w args∧laidMetH prog laidL w)∧sizedMet enc prog Tryz.f3 (OpenSpec.ofChange Rows.printReadSpec) false w args)
   (Rows.printReadSpec.post enc prog Tryz.f3 false true false false):=by
 refine returnsInHanded_of_change_and (C:=Tryz.checked) (X:=fun w _=>laidMetH prog laidL w) (fun _ _ _ hh h=>h.of_heap hh) own started (by kernel_rfl) func3
  (ChangeSpec.witness_shaped (enc:=enc) (C:=Tryz.checked) (os:=os) (X:=fun w _=>laidMetH prog laidL w) false (laidW os) #[.string ⟨#[]⟩] 8 (laidW_os os)
   (World.shaped_of_ZipB (by kernel_rfl) (by kernel_rfl)) (by kernel_rfl) (by kernel_rfl) (by kernel_rfl) (laidW_met os _)) ?_
 intro W base args ds gs before hval0 hW hcnd hsz hL0 _;have hval:∀ (j:Nat) t v,Tryz.f3.params[j]? = some t→args[j]? = some v→Value.okWide prog W .any base t v:=hval0;have hW':=hW;obtain⟨p,q,hA0,hV,rfl,hfz,hnd⟩:=hW;have hA:DataW.TrodAll enc prog W 0 (fun _=>true) true Tryz.f3.params.toList args.toList ds p:=hA0;rw[params3]at hA hval;obtain⟨v0,vs0,d0,ds0,p0,q0,hargs,rfl,rfl,h0,r0⟩:=trodAll_cons hA;obtain⟨rfl,rfl,rfl⟩:=trodAll_nil r0;obtain rfl:args=#[v0]:=by cases args;simp_all
 obtain⟨rfl,rfl⟩:=trodVars_none hV;obtain⟨s0,rfl,rfl,rfl,hs0⟩:=open_string underlying9 (hval 0 _ _ rfl rfl) h0;have hr0:=sized_string hsz (j:=0) rfl rfl;refine(printread_str s0 (by unfold maxLen at hs0;exact hs0) W (fileW_ofH hL0)).mono fun e W' ⟨he,hb⟩=>?_
 exact⟨_,he,law_post laidOut (by decide +kernel) rfl underlying4 rfl (fun l hl=>by match l,hl with | [d0],_=>rfl) hW' hb⟩
theorem said:Rows.PrintReadSaid:=
 OpenClaim.holds_of_wide 3 Tryz.f3 rfl rfl rfl rfl rfl rfl rfl ⟨rfl,rfl,rfl,rfl,rfl⟩ rfl rfl rfl rfl rfl (by kernel_rfl) func3 (by kernel_rfl)
  (of_decide_eq_true (by kernel_rfl)) (by unfold Func.isWrapper;first|(rw[if_pos (by decide +kernel)];kernel_rfl)|(rw[if_neg (by decide +kernel)];exact⟨rfl,rfl⟩))
  (fun os started H enc _=>lifted os started H enc)
theorem plain (f : FuncId) (fn : Func) (hf : Tryz.pinned.checked.prog.funcNamed "busbar/busbarlaw07.PrintRead" = some f) (hfn : Tryz.pinned.checked.prog.funcs[f]? = some fn) :
  true=Tryz.pinned.checked.prog.looks []∧∀ (j:Nat) t,fn.params[j]? = some t→Tryz.pinned.checked.prog.wantsStandIn t=false:=by
 obtain rfl : f = 3 := Option.some.inj ((show prog.funcNamed "busbar/busbarlaw07.PrintRead" = some 3 by kernel_rfl).symm.trans hf) |>.symm
 obtain rfl:fn=Tryz.f3:=(Option.some.inj (func3.symm.trans hfn)).symm;refine⟨by kernel_rfl,fun j t ht=>?_⟩;have hall:Tryz.f3.params.all (fun t=>prog.wantsStandIn t == false)=true:=(by kernel_rfl);have:=Array.all_eq_true'.1 hall t (Array.mem_of_getElem? ht);exact(show prog.wantsStandIn t=false by simpa using this)
theorem proved:Rows.PrintReadCardSaid:=
 Claim7.holds_tied_plain_at .later [] _ _ _ _ said (fun _ h=>by cases h) (by kernel_rfl) (fun _ h=>by cases h) printRead_row_tie rfl ⟨rfl,rfl⟩ (by kernel_rfl) rfl plain (by kernel_rfl)
#print axioms proved
end Go.Proofs.YtkblpaabknjckaaGreatDoor.printRead
