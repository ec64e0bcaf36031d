/-
  PROVED: busbar/busbarlaw06.ParseKnown: for every input the law returns true and leaves its arguments as they were. No condition.
-/
import Derived.Test.YtfflljgnpfldfaaGreatDoorCards
import Derived.Test.YtfflljgnpfldfaaGreatDoorTie
import Derived.Lay
import Derived.Stop.LaidErr
import Derived.LaidMore
import Derived.Test.YtfflljgnpfldfaaGreatDoorKnwG
set_option linter.all false
set_option maxHeartbeats 128000000
set_option maxRecDepth 100000
namespace Go.Proofs.YtfflljgnpfldfaaGreatDoor.parseKnown
open Go.Proofs.Tryz
open Go.ChangeShapes Go.WideShapes Go.ChangeAt Go.RowKit
abbrev yq : List (String × DataW Unit) := [("math/bits.deBruijn32tab", Rows.laid_math_bits_deBruijn32tab), ("math/bits.deBruijn64tab", Rows.laid_math_bits_deBruijn64tab), ("internal/strconv.uint64pow10", Rows.laid_internal_strconv_uint64pow10), ("unicode/utf8.acceptRanges", Rows.laid_unicode_utf8_acceptRanges), ("errors.errorType", Rows.laid_errors_errorType), ("strconv.ErrRange", Rows.laid_strconv_ErrRange), ("strconv.ErrSyntax", Rows.laid_strconv_ErrSyntax), ("unicode/utf8.first", Rows.laid_unicode_utf8_first)]
abbrev yr : List (String × DataW Unit) := [("math/bits.deBruijn32tab", Rows.laid_math_bits_deBruijn32tab), ("math/bits.deBruijn64tab", Rows.laid_math_bits_deBruijn64tab), ("internal/strconv.uint64pow10", Rows.laid_internal_strconv_uint64pow10), ("unicode/utf8.acceptRanges", Rows.laid_unicode_utf8_acceptRanges), ("strconv.ErrRange", Rows.laid_strconv_ErrRange), ("strconv.ErrSyntax", Rows.laid_strconv_ErrSyntax), ("unicode/utf8.first", Rows.laid_unicode_utf8_first)]
abbrev amS : List (String × DataW Unit) := [("errors.errorType", Rows.laid_errors_errorType)]
noncomputable def laidB (os:Os):World:=
 let w0:=World.holding prog os ⟨#[],#[],[]⟩
 { w0 with heap:=w0.heap.modify 0 fun
   | .cells _ t frozen=>.cells #[.iface 238 (.agg #[.pointer (some ⟨9,54,none⟩)])] t frozen
   | o=>o }
noncomputable def Js (os:Os):World:=(laidB os).layVars prog yr
theorem amP (os:Os):(Js os).os=os:=by unfold Js;rw[World.layVars_os];rfl
theorem amT (os:Os):laidMet prog yr (Js os):=by
 have e1:(yr.filter fun x=>(yr.map (·.1)).contains x.1)=yr:=List.filter_eq_self.2 fun x hx=>List.contains_iff_mem.2 (td.2 ⟨x,hx,rfl⟩)
 have e2:(yr.filter fun x=>!(yr.map (·.1)).contains x.1)=[]:=List.filter_eq_nil_iff.2 fun x hx=>by rw[List.contains_iff_mem.2 (td.2 ⟨x,hx,rfl⟩)];simp
 exact laidMet_layVars (w0:=laidB os) (yr.map (·.1)) [] (by rw[e1];rfl) (by rw[e1];kernel_rfl) (by rw[e1];kernel_rfl) (by rw[e2];exact LaidIn.none)
theorem amU (os:Os) (args:Array Value):laidMet prog yr ((Js os).forCall (fun _ _=>0) ⟨#[],args,[]⟩).memory:=
 (amT os).of_heap (by simp[World.memory,World.forCall,Input.heap])
theorem amQ (os:Os) (args:Array Value):laidMetH prog yq ((Js os).forCall (fun _ _=>0) ⟨#[],args,[]⟩).memory:=
 laidMetH_of_parts (amU os args) aj
theorem aeF {W:World} (h:laidMetH prog yq W):laidMet prog yr W∧handlesMet prog amS W:=h
theorem amV : prog.globalNamed "errors.errorType" = some 0 := by kernel_rfl
theorem amW : (prog.cutTypes.find? (·.1 == "internal/reflectlite.rtype")).map (·.2) = some 238 := by kernel_rfl
theorem amX:((List.range prog.types.size).filter fun t=>prog.rowNamed t [101,114,114,111,114])=[54]:=aj
theorem amY:typeHandle prog 54=.pointer (some ⟨9,54,none⟩):=aj
theorem amZ {W:World} (h0:laidMetH prog yq W):vY W:=by
 have h:=(aeF h0).2;obtain⟨name,u,ty,e1,e2,e3,e4,e5⟩:=h _ (oY.2 rfl);have en:name=[101,114,114,111,114]:=(Option.some.inj e1).symm;subst en;obtain rfl:=Option.some.inj (amW.symm.trans e2);have hm:ty∈(List.range prog.types.size).filter fun t=>prog.rowNamed t [101,114,114,111,114]:=List.mem_filter.2 ⟨List.mem_range.2 e3,e4⟩
 rw[amX]at hm;obtain rfl:=oY.1 hm;rw[amY]at e5
 simpa [vY]using World.var?_cell amV e5 0
theorem WD {W:World} (h0:laidMetH prog yq W):laidMet prog yr W:=(aeF h0).1
theorem am0 : prog.globalNamed "internal/strconv.uint64pow10" = some 4 := by kernel_rfl
theorem am1 {W:World} (h0:laidMetH prog yq W):ng W:=by
 have h:=WD h0;have h2:=laidMet.tail (laidMet.tail (h));exact Lib.tabIs_of_head (am0) (t:=341) (e:=59) (n:=20) aj underlying341 underlying59 aj aj h2
theorem am2 : prog.globalNamed "unicode/utf8.first" = some 5 := by kernel_rfl
theorem am3 : prog.globalNamed "unicode/utf8.acceptRanges" = some 6 := by kernel_rfl
theorem am4:(prog.globals[5]?).map (·.type)=some 352:=aj
theorem am5:(prog.globals[6]?).map (·.type)=some 355:=aj
theorem c8:prog.cellsOf 5=1:=aj
theorem cF:prog.cellsOf 352=256:=aj
theorem cR:prog.cellsOf 354=2:=aj
theorem am6:Rows.laid_unicode_utf8_first=Lib.firstData:=aj
theorem am7:Rows.laid_unicode_utf8_acceptRanges=Lib.acceptData:=aj
theorem am8 {W:World} (h0:laidMetH prog yq W):xP W:=by
 have hL:=WD h0;have r1 : Lib.VarReads prog W "unicode/utf8.first" Rows.laid_unicode_utf8_first := Lib.laidMet.reads hL (.tail _ (.tail _ (.tail _ (.tail _ (.tail _ (.tail _ (.head _)))))))
 rw[am6]at r1;have r2 : Lib.VarReads prog W "unicode/utf8.acceptRanges" Rows.laid_unicode_utf8_acceptRanges := Lib.laidMet.reads hL (.tail _ (.tail _ (.tail _ (.head _))))
 rw[am7]at r2;constructor
 ·intro c hc;obtain⟨g,t,cs,fuel,p,hg,WE,Ri,hd⟩:=r1;obtain rfl:5=g:=Option.some.inj (am2.symm.trans hg);obtain rfl:352=t:=Option.some.inj (am4.symm.trans WE);have hcs:=Lib.cells_of_tab underlying352 underlying5 c8 cF hd;rw[World.var?_cell hg Ri c,← Array.getElem?_toList,hcs];simp[Lib.firstTab,hc]
 ·intro i hi;obtain⟨g,t,cs,fuel,p,hg,WE,Ri,hd⟩:=r2;obtain rfl:6=g:=Option.some.inj (am3.symm.trans hg);obtain rfl:355=t:=Option.some.inj (am5.symm.trans WE);obtain⟨fu,d,q,h1,h2⟩:=Lib.array_elem underlying355 hd i hi;rw[List.getElem?_map,List.getElem?_range hi]at h1;obtain rfl:=Option.some.inj h1;rw[cR]at h2;have hz:=Lib.ints_of_struct (k:=.u8) underlying354 (fun j f hj=>by
   rcases j with _|_|j
   ·simp at hj;subst hj;exact⟨underlying5,rfl,c8⟩
   ·simp at hj;subst hj;exact⟨underlying5,rfl,c8⟩
   ·simp at hj) cR h2
  have z0:=jA (·[0]?) hz;have z1:=jA (·[1]?) hz;simp only[List.getElem?_take,zy]at z0 z1;exact⟨by rw[World.var?_cell hg Ri (2*i),← Array.getElem?_toList];simpa [e9]using z0,by rw[World.var?_cell hg Ri (2*i+1),← Array.getElem?_toList];simpa [e9]using z1⟩
theorem aeG : "*" ++ "errors.errorString" = "*errors.errorString" := by decide
theorem aeH (u : TypeId) (h : prog.typeName? 3 u = some "*errors.errorString") : u = 370 :=
 typeName_ptr_named (nm := "errors.errorString") (by rw [aeG]; kernel_rfl) aj ah u (by rw [aeG]; exact h)
theorem sG1 : prog.globalNamed "strconv.ErrRange" = some 3 := by kernel_rfl
theorem sG2 : prog.globalNamed "strconv.ErrSyntax" = some 2 := by kernel_rfl
theorem sT1:(prog.globals[3]?).map (·.type)=some 54:=aj
theorem sT2:(prog.globals[2]?).map (·.type)=some 54:=aj
theorem am9 {W:World} (h0:laidMetH prog yq W):rB W:=by
 have hL:=WD h0;obtain⟨a,s,h1,-⟩:=laid_sentinel (laidMet.tail (laidMet.tail (laidMet.tail (laidMet.tail hL)))) sG1 sT1 underlying54 aeH underlying370 underlying372 rfl rfl underlying9 aj aj;obtain⟨b,t,h2,-⟩:=laid_sentinel (laidMet.tail (laidMet.tail (laidMet.tail (laidMet.tail (laidMet.tail hL))))) sG2 sT2 underlying54 aeH underlying370 underlying372 rfl rfl underlying9 aj aj;exact⟨⟨_,by simpa using World.var?_cell sG2 h2 0,.inr ⟨_,_,rfl⟩⟩,⟨_,by simpa using World.var?_cell sG1 h1 0,.inr ⟨_,_,rfl⟩⟩⟩
theorem amR {W:World} (h0:laidMetH prog yq W):eR W:=⟨am8 h0,am1 h0,am9 h0,amZ h0⟩
end Go.Proofs.YtfflljgnpfldfaaGreatDoor.parseKnown
namespace Go.Proofs.YtfflljgnpfldfaaGreatDoor.parseKnown
open Go.Proofs.Tryz
open Go.ChangeShapes Go.WideShapes Go.ChangeAt Go.RowKit
open Go.ChangeMaps (open_string)
theorem own:ownKnob prog.godebug=none:=aj
theorem laidOut:laidOutB prog=true:=aj
theorem lifted (os:Os) (started:os.Started) (H:Type) (enc:TypeId×Value→H) :
  ReturnsInHanded {} Tryz.checked os 3 .any (fun w args=>(Rows.parseKnownSpec.pre enc prog Tryz.f3 [] false w args∧laidMetH prog yq w)∧sizedMet enc prog Tryz.f3 (OpenSpec.ofChange Rows.parseKnownSpec) false w args)
   (Rows.parseKnownSpec.post enc prog Tryz.f3 false true false false):=by
 refine returnsInHanded_of_change_and (C:=Tryz.checked) (X:=fun w _=>laidMetH prog yq w) (fun _ _ _ hh h=>h.of_heap hh) own started aj func3
  (ChangeSpec.witness_shaped (enc:=enc) (C:=Tryz.checked) (os:=os) (X:=fun w _=>laidMetH prog yq w) false (Js os) #[] 8 (amP os)
   (World.shaped_of_ZipB aj aj) aj aj aj (amQ os _)) ?_
 intro W base args ds gs before aeE hW hcnd hsz hL0 _;have hval:∀ (j:Nat) t v,Tryz.f3.params[j]? = some t→args[j]? = some v→Value.okWide prog W .any base t v:=aeE;have Qv:=hW;obtain⟨p,q,hA0,hV,rfl,hfz,xK⟩:=hW;have hA:DataW.TrodAll enc prog W 0 (fun _=>true) true Tryz.f3.params.toList args.toList ds p:=hA0;rw[params3]at hA hval;obtain⟨rfl,rfl,rfl⟩:=trodAll_none hA;clear hA0 aeE;obtain⟨rfl,rfl⟩:=trodVars_none hV;refine(amL W (amR hL0)).mono fun e W' ⟨he,hb⟩=>?_
 exact⟨_,he,ajy laidOut (by decide +kernel) rfl underlying4 rfl (fun l hl=>by match l,hl with | [],_=>rfl) Qv hb⟩
theorem j1:(Rows.parseKnownRow.wf (OpenSpec.ofChange Rows.parseKnownSpec))=true:=aj
theorem j2:(laidOutB (Tryz.pinned.checked.prog))=true:=aj
theorem j3:(mapsRowed (Tryz.pinned.checked.prog))=true:=aj
theorem j4:((Tryz.f3).params.all ((Tryz.pinned.checked.prog).readableRec ·))=true:=aj
theorem j5:(namedTie (Tryz.pinned.checked.prog) Rows.parseKnownRow.named Rows.parseKnownSpec.vars)=true:=aj
theorem j6:((Rows.parseKnownRow.stops == []))=true:=aj
theorem j7:(((Tryz.pinned.checked.prog).stops == []))=true:=aj
theorem j8:((Rows.parseKnownRow.knobs == []))=true:=aj
theorem j9:(((Tryz.pinned.checked.prog).stopKnobs == []))=true:=aj
theorem j10:((Rows.parseKnownRow.inPlace == (Tryz.pinned.checked.prog).inPlace 3))=true:=aj
theorem j11:((Rows.parseKnownRow.unfollowed == (Tryz.pinned.checked.prog).unfollowed 3))=true:=aj
theorem j12:((Rows.parseKnownRow.recurses == (Tryz.pinned.checked.prog).recurses 3))=true:=aj
theorem j13:((Rows.parseKnownRow.named == (Tryz.pinned.checked.prog).varsNamed 3))=true:=aj
theorem j14:((Rows.parseKnownRow.maps == ((Tryz.f3).params.toList++Rows.parseKnownSpec.plain.varTypes (Tryz.pinned.checked.prog)).any ((Tryz.pinned.checked.prog).mapsRec ·)))=true:=aj
theorem j15:((Rows.parseKnownRow.ifaces == ((Tryz.f3).params.toList++Rows.parseKnownSpec.plain.varTypes (Tryz.pinned.checked.prog)).any ((Tryz.pinned.checked.prog).ifacesRec ·)))=true:=aj
theorem j16:((Rows.parseKnownRow.mapsOut == (Tryz.pinned.checked.prog).mapsAmong (Tryz.f3).resultTypes.toList))=true:=aj
theorem j17:((Rows.parseKnownRow.loops == ((Tryz.f3).params.toList++Rows.parseKnownSpec.plain.varTypes (Tryz.pinned.checked.prog)).any ((Tryz.pinned.checked.prog).loopsFrom ·)))=true:=aj
theorem j18:((Rows.parseKnownRow.wideKeys == ((Tryz.f3).params.toList++Rows.parseKnownSpec.plain.varTypes (Tryz.pinned.checked.prog)++(Tryz.f3).resultTypes.toList).any ((Tryz.pinned.checked.prog).wideKeysFrom ·)))=true:=aj
theorem j19:(Rows.parseKnownSpec.vars.all ((Tryz.pinned.checked.prog).varReadable ·))=true:=aj
theorem j20:((Tryz.f3).resultTypes.all (fun t=>(Tryz.pinned.checked.prog).readableRec t && decide (t < (Tryz.pinned.checked.prog).types.size)))=true:=aj
theorem j21:((Rows.parseKnownRow.ifacesOut == (Tryz.f3).resultTypes.toList.any ((Tryz.pinned.checked.prog).ifacesRec ·)))=true:=aj
theorem j22:((Rows.parseKnownRow.loopsOut == (Tryz.f3).resultTypes.toList.any ((Tryz.pinned.checked.prog).loopsFrom ·)))=true:=aj
theorem j23:((Rows.parseKnownRow.plainKeys == (Tryz.pinned.checked.prog).plainKeys))=true:=aj
theorem j24:(Rows.parseKnownRow.shortTexts.isNone)=true:=aj
theorem j25:((Tryz.pinned.checked.prog).stopsHeard)=true:=aj
theorem j26:((Tryz.pinned.checked.prog).mayEnter)=true:=aj
theorem j27:((Rows.parseKnownRow.lifted == (Tryz.pinned.checked.prog).liftsFinal))=true:=aj
theorem j28:(((Tryz.pinned.checked.prog).make == some Rows.parseKnownRow.make))=true:=aj
theorem j29:((Rows.parseKnownRow.kinds == (if Rows.parseKnownRow.domain.isEmpty then [] else (Tryz.f3).params.toList.map fun t=>match (Tryz.pinned.checked.prog).underlying t with|some (.int k)=>some k|_=>none)))=true:=aj
theorem j30:((Rows.parseKnownRow.pinned == Rows.parseKnownRow.pinnedBy))=true:=aj
theorem j31:((Rows.parseKnownRow.veiled == ((Tryz.f3).params.toList++Rows.parseKnownSpec.plain.varTypes (Tryz.pinned.checked.prog)++(Tryz.f3).resultTypes.toList).any ((Tryz.pinned.checked.prog).veiledRec ·)))=true:=aj
theorem j32:(Rows.parseKnownRow.veiledFits (Tryz.pinned.checked.prog) (Tryz.f3).params.toList ((Tryz.f3).params.toList++Rows.parseKnownSpec.plain.varTypes (Tryz.pinned.checked.prog)++(Tryz.f3).resultTypes.toList))=true:=aj
theorem bi {a b:Bool} (h:a=true) (h2:b=true):(a && b)=true:=by rw[h,h2];rfl
theorem jf:joinedFacts (Tryz.pinned.checked.prog) 3 Tryz.f3 Rows.parseKnownSpec Rows.parseKnownRow=true:=by
 unfold joinedFacts;exact bi (bi (bi (bi (bi (bi (bi (bi (bi (bi (bi (bi (bi (bi (bi (bi (bi (bi (bi (bi (bi (bi (bi (bi (bi (bi (bi (bi (bi (bi (bi j1 j2) j3) j4) j5) j6) j7) j8) j9) j10) j11) j12) j13) j14) j15) j16) j17) j18) j19) j20) j21) j22) j23) j24) j25) j26) j27) j28) j29) j30) j31) j32
theorem said:Rows.ParseKnownSaid:=
 OpenClaim.holds_of_wide 3 Tryz.f3 rfl rfl rfl rfl rfl rfl rfl ⟨rfl,rfl,rfl,rfl,rfl⟩ rfl rfl rfl rfl rfl aj func3 jf
  (Fs aj) (by unfold Func.isWrapper;first|(rw[if_pos (by decide +kernel)];kernel_rfl)|(rw[if_neg (by decide +kernel)];exact⟨rfl,rfl⟩))
  (fun os started H enc _=>lifted os started H enc)
theorem plain (f : FuncId) (fn : Func) (hf : Tryz.pinned.checked.prog.funcNamed "busbar/busbarlaw06.ParseKnown" = some f) (hfn : Tryz.pinned.checked.prog.funcs[f]? = some fn) :
  true=Tryz.pinned.checked.prog.looks []∧∀ (j:Nat) t,fn.params[j]? = some t→Tryz.pinned.checked.prog.wantsStandIn t=false:=by
 obtain rfl : f = 3 := Option.some.inj ((show prog.funcNamed "busbar/busbarlaw06.ParseKnown" = some 3 by kernel_rfl).symm.trans hf) |>.symm
 obtain rfl:fn=Tryz.f3:=(Option.some.inj (func3.symm.trans hfn)).symm;refine⟨aj,fun j t ht=>?_⟩;have hall:Tryz.f3.params.all (fun t=>prog.wantsStandIn t == false)=true:=aj;have:=Array.all_eq_true'.1 hall t (Array.mem_of_getElem? ht);exact(show prog.wantsStandIn t=false by simpa using this)
theorem proved:Rows.ParseKnownCardSaid:=
 Claim7.holds_tied_plain_at .later [] _ _ _ _ said (fun _ h=>xq) aj (fun _ h=>xq) parseKnown_row_tie rfl ⟨rfl,rfl⟩ aj rfl plain aj
#print axioms proved
end Go.Proofs.YtfflljgnpfldfaaGreatDoor.parseKnown
