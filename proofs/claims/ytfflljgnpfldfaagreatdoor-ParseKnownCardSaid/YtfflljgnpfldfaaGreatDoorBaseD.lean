/-
  Blocks of the call's own (boxed structs) and what stays of them behind calls.
-/
import Derived.Lib.Hide
import Derived.Deep.CondSized
import Derived.Deep.QuietTactic
import Derived.Deep.RegionHeld3
import Derived.Deep.RegionLaw
import Derived.Deep.Slices
import Derived.Lib.OwnKind
import Derived.OpenShut
import Derived.ProofKit
import Derived.StillTail
import Derived.WalkLawsBesides
import Derived.WalkSpells
import Derived.Deep.Cut
set_option linter.all false
set_option maxHeartbeats 128000000
namespace Go.Proofs.YtfflljgnpfldfaaGreatDoor
open Go.RowKit
theorem Qh {p : Prop} (h : p) : RowKit.Hid p := Lib.hid h
theorem _root_.Go.RowKit.Hid.o {p : Prop} (h : RowKit.Hid p) : p := h.out
theorem _root_.Go.Shut.o {p : Prop} (h : Go.Shut p) : p := h.out
theorem af {n : Nat} : n ≤ n := Nat.le_refl n
theorem gE {α : Type} {a : Array α} {i : Nat} {x : α} (h : a[i]? = some x) : i < a.size := (Array.getElem?_eq_some_iff.1 h).1
theorem bN {α : Type} [BEq α] [LawfulBEq α] {a b : α} (h : a ≠ b) : (a == b) = false := beq_eq_false_iff_ne.2 h
variable {p q A0 A1 A2 A3:Prop}
theorem aI(a0:A0)(kq:q)(h:Hid A0→Hid q→p:=by 
 intro aP kq;(with_reducible refine aP.o.mono ?_)
 exact kq.o):p:=h a0 kq
theorem jd(kq:q)(h:Hid q→p:=by intro kq;rintro aV au ⟨rfl,az,aO⟩;have bM:=Qh (eJ HZ.o (by omega) az);have cZ:=Qh (eJ HC.o (by omega) az);have dy:=Qh (HO.o.trans az);have eK:=Qh aO;clear az aO;revert au bM cZ dy eK;exact kq.o):p:=h kq
theorem Mqc(h:p:=by rintro aO au ⟨rfl,az⟩;have aV:=Qh (HO.o.trans az);clear az;go_wp2_with fail;exact⟨rfl,by rw[dv.o];exact⟨rfl,aV.o⟩⟩):p:=h
theorem qi(kq:q)(h:Hid q→p:=by intro kq;rintro aV au ⟨rfl,az,aO⟩;have bM:=Qh ((az.block _ (gE HZ.o) (by simp;omega)).trans HZ.o);have cZ:=Qh ((az.block _ (gE HC.o) (by simp;omega)).trans HC.o);have dy:=Qh (HO.o.trans az);have eK:=Qh aO;clear az aO;revert au bM cZ dy eK;exact kq.o):p:=h kq
theorem kt(a0:A0)(a1:A1)(a2:A2)(kq:q)(h:Hid A0→Hid A1→Hid A2→Hid q→p:=by intro aP fT nx kq;have au:=aP.o;rw[hX]at au;unfold fN at au;have az:=fT.o;rw[hX,PR.ku]at az;have aO:=Qh az;obtain⟨aV,bM⟩:=nx.o;have cZ:=aV;have dy:=Qh bM;clear az aV bM;revert dy;revert cZ;revert aO;revert au;exact kq.o):p:=h a0 a1 a2 kq
theorem Mqf(a0:A0)(h:Hid A0→p:=by 
 intro aP;go_wp2_with fail;(with_reducible refine aP.o.mono ?_)
 rintro aO au ⟨rfl,az⟩;have aV:=Qh (aH bE.o az af);obtain⟨⟨bM,cZ,dy,eK⟩,jF,kx,ll,pK⟩:=(df.o.keep az af).four;clear az gl;go_wp2_with fail;exact bodyPost_ret (v:=gI 7) (by simp[results,results81,go_sem,bM,cZ,dy,eK,gI,qj]) rfl ⟨by rw[HN.o],gp aV.o af _ _ _ _⟩):p:=h a0
theorem yZ(h:p:=by first|(refine Or.inr ⟨?_,?_⟩<;>rfl)|(refine Or.inl ⟨by rfl,?_⟩;intro w hSw;(try dsimp only at hSw);first|(obtain⟨TS,hS1⟩:=hSw;go_simp;done)|(obtain⟨TS,hS1⟩:=hSw;go_simp;with_reducible rfl)|(go_simp;done)|(go_simp;with_reducible rfl))):p:=h
theorem Mqh(a0:A0)(a1:A1)(kq:q)(h:Hid A0→Hid A1→Hid q→p:=by intro aP fT kq;have au:=aP.o;rw[hX]at au;unfold fN at au;have az:=fT.o;rw[hX,PR.ug]at az;have aO:=Qh az;clear az;revert aO;revert au;exact kq.o):p:=h a0 a1 kq
theorem KQ(h:p:=by 
 go_wp2_with fail;try rw[Exit.noGoto_ret]
 exact bodyPost_ret (v:=.tuple #[.agg #[.bool neg,.string ⟨ds.toArray⟩,.int .i64 0],.bool false]) (by simp[results,results217,go_sem,r0,r1,r2]) rfl ⟨neg,ds,0,false,rfl,((HB.o.setCell (by simp) _).setCell (by simp) _).setCell (by simp) _,by rw[← HN.o];rfl⟩):p:=h
theorem Mqj(h:p:=by 
 rintro aO au ⟨rfl,az⟩;have aV:=Qh az;clear az;go_wp2_with fail;go_ret2
 rw[HV.o];exact⟨_,rfl,(fun v hv=>by first|(cases hv;done)|(cases hv;first|(simp;done)|(simp[wrap64];done)|(unfold wrap64;decide)|kernel_rfl)),aV.o⟩):p:=h
theorem aL(kq:q)(h:Hid q→p:=by 
 intro kq;try simp only[spt]
 exact kq.o):p:=h kq
theorem KR(a0:A0)(a1:A1)(h:Hid A0→Hid A1→p:=by 
 intro aP fT;have au:=aP;go_wp2_with (refine iC (cs:=bf) B2 33 (.tmp 2) (.tmp 56) jw rfl TT ?_)
 have az:=fT.o;refine bodyPost_ret (v:=.tuple #[.agg bf,.iface 102 (.agg #[.int .i64 4,.int .i64 0,.int .i64 (k:Nat)])]) (by simp[results,results20,asAddr,az]) rfl ⟨_,rfl,by rw[au.o];rfl,pL uh.o.cL af bf⟩):p:=h a0 a1
theorem mM(a0:A0)(a1:A1)(kq:q)(h:Hid A0→Hid A1→Hid q→p:=by 
 intro aP fT kq;have au:=aP.o;obtain⟨az,aO,aV,bM,cZ⟩:=fT.o;rw[← bM]at au;try rw[← aV]at au
 have dy:=Qh cZ;clear cZ aV bM;revert dy;revert au;revert aO;revert az;exact kq.o):p:=h a0 a1 kq
theorem Hp(h:p:=by go_wp2_with fail;go_ret;exact⟨by rw[HB.o]<;>rfl,rfl⟩):p:=h
theorem Mqo(kq:q)(h:Hid q→p:=by 
 intro kq;have au := @run_callFunc_extern prog 83 _ (ReflectliteValue.methodAny (ReflectliteValue.valueError "reflectlite.Value.Type" 0) (fun t _ _ _ => ReflectliteType.toType t)) func83 (by kernel_rfl) (by kernel_rfl) (by kernel_rfl) (by kernel_rfl)
 have az := @run_callFunc_extern prog 84 _ (ReflectliteValue.method (ReflectliteValue.valueError "reflectlite.Value.IsNil" 0) ReflectliteValue.isNil) func84 (by kernel_rfl) (by kernel_rfl) (by kernel_rfl) (by kernel_rfl)
 have aO:=@run_callFunc_extern prog 291 _ (ReflectliteType.abiMethod fun t=>do pure (.int .u8 (← Rtype.kind t))) func291 (by kernel_rfl) (by kernel_rfl) (by kernel_rfl) (by kernel_rfl);have aV:=@run_callFunc_extern prog 307 _ (ReflectliteType.method ReflectliteType.elem) func307 (by kernel_rfl) (by kernel_rfl) (by kernel_rfl) (by kernel_rfl);have bM := @run_callFunc_extern prog 308 _ (ReflectliteType.relation "Implements" ReflectliteType.implements_) func308 (by kernel_rfl) (by kernel_rfl) (by kernel_rfl) (by kernel_rfl)
 have cZ:=@run_callFunc_extern prog 138 _ ReflectliteType.typeOf func138 (by kernel_rfl) (by kernel_rfl) (by kernel_rfl) (by kernel_rfl);have dy := @run_callFunc_extern prog 305 _ (ReflectliteType.relation "AssignableTo" ReflectliteType.assignableTo) func305 (by kernel_rfl) (by kernel_rfl) (by kernel_rfl) (by kernel_rfl)
 revert au az aO aV bM cZ dy;exact kq.o):p:=h kq
theorem TU(kq:q)(h:Hid q→p:=by 
 intro kq;rintro aV au ⟨rfl,az,aO⟩;have bM:=Qh (ny.o.trans az);have cZ:=Qh aO;have dy:ai au w.heap.size #[.int .i64 0,.string ⟨#[]⟩]:=⟨_,eJ pM.o (by omega) az⟩
 obtain⟨eK,jF,kx,ll⟩:=dy.two;have pK:∀ x,(au.setCell ⟨w.heap.size,0,none⟩ x).cell? ⟨w.heap.size,1,none⟩=some (.string ⟨#[]⟩):=fun x=>(dy.put 0 x).cell 1 _ rfl
 have EU:∀ x,(au.setCell ⟨w.heap.size,0,none⟩ x).frozen? ⟨w.heap.size,1,none⟩=false:=fun x=>(dy.put 0 x).free 1
 revert au az aO bM cZ dy eK jF kx ll pK EU;exact kq.o):p:=h kq
theorem Hq(kq:q)(h:Hid q→p:=by intro kq;rintro aO au ⟨rfl,az⟩;replace HC:=Qh (bF HC.o az);replace HO:=Qh (HO.o.trans (aA.of_below kr az));replace HP:=Qh (HP.o.keep az);revert HP;revert HO;revert HC;revert az;revert au;exact kq.o):p:=h kq
theorem TV(a0:A0)(kq:q)(h:Hid A0→Hid q→p:=by 
 intro aP kq;rintro aV au ⟨rfl,az,aO⟩;have bM:=Qh (sP.o.trans az);have cZ:=Qh aO;have dy:=Qh (eJ wP.o (by omega) az);have eK:=Qh (eJ rK.o (by omega) az);have jF:=Qh (aG.only wQ.o dG az);clear az aO;obtain⟨kx,ll⟩:∃ C,C=(⟨t0.line,t0.ak,ib.1,ib.2,nm,l⟩:bK).cells (.slice av l.length cv):=⟨_,rfl⟩
 have pK:au.heap[ks]? = some (.cells kx 43):=(by rw[ll];exact dy.o)
 have EU:=Qh ll;have AR:kx.size=6:=(by rw[ll];rfl)
 have TW:kx.all (·.oneCell')=true:=(by rw[ll];exact bK.cells_one _ _ _ _)
 have TY:ai au ks kx:=⟨_,pK⟩
 have aiw:ai au w.heap.size iD:=⟨_,eK.o⟩
 have aix:=aP.o;clear pK ll;revert au bM cZ dy eK jF kx EU AR TW TY aiw aix;exact kq.o):p:=h a0 kq
theorem TZ(h:p:=by refine⟨(jG.refl _ _).setCell (p:=⟨w.heap.size+1+1,0,none⟩) (by have:=HZ.o;show w.heap.size+1+1 < _;omega) _,⟨⟨bE.o.setCell (p:=⟨w.heap.size+1+1,0,none⟩) (by show _≤w.heap.size+1+1;omega) _,bX.o.other (a:=⟨w.heap.size+1+1,0,none⟩) (by show w.heap.size+1+1≠_;omega) _,aM.o.other (a:=⟨w.heap.size+1+1,0,none⟩) (by show w.heap.size+1+1≠_;omega) _,?_⟩,je.o nY.o⟩⟩;rw[HPS.o];exact bT.o.st 0 _):p:=h
theorem CO(a0:A0)(h:Hid A0→p:=by intro aP;have au:=aP;clear hb;go_wp2_with fail;exact⟨rfl,by rw[dv.o];exact⟨rfl,au.o⟩⟩):p:=h a0
theorem KS(h:p:=by go_wp2_with fail;exact bodyPost_ret (v:=.tuple #[.agg #[.int .i64 0,.int .i64 0],.int .i64 9]) (by simp[results,results208,go_sem,r0,r1]) rfl ⟨by rw[aiy.o];rfl,(bT.o.setCell (by simp) _).setCell (by simp) _⟩):p:=h
theorem rL(kq:q)(h:Hid q→p:=by intro kq;refine KT (by kernel_rfl) (by kernel_rfl) ?_;exact kq.o):p:=h kq
theorem T6(h:p:=by 
 go_wp2_with fail;try rw[Exit.noGoto_ret]
 exact bodyPost_ret (v:=.tuple #[.agg #[.bool neg,.string ⟨ds.toArray⟩,.int .i64 (-(pow:Int) - (back:Int))],.bool true]) (by simp[results,results217,go_sem,r0,r1,r2]) rfl ⟨neg,ds,-(pow:Int) - (back:Int),true,rfl,(((HB.o.setCell (by simp) _).setCell (by simp) _).setCell (by simp) _).setCell (by simp) _,by rw[← HN.o];exact⟨rfl,rfl,rfl,rfl⟩⟩):p:=h
theorem T8(h:p:=by 
 go_wp2_with fail;try rw[Exit.noGoto_ret]
 exact bodyPost_ret (v:=.tuple #[.agg #[.bool neg,.string ⟨ds.toArray⟩,.int .i64 ((pow:Int) - (back:Int))],.bool true]) (by simp[results,results217,go_sem,r0,r1,r2]) rfl ⟨neg,ds,(pow:Int) - (back:Int),true,rfl,(((HB.o.setCell (by simp) _).setCell (by simp) _).setCell (by simp) _).setCell (by simp) _,by rw[← HN.o];exact⟨rfl,rfl,rfl,rfl⟩⟩):p:=h
theorem Ua(h:p:=by go_wp2_with fail;refine bodyPost_ret (v:=.agg #[.int .i64 z,.string ⟨TX.toArray⟩]) (by simp[results,results109,go_sem,z0,z1]) rfl ?_;refine⟨z,TX,rfl,aA.new (aA.new gJ.o _ af 0 _) _ af 1 _,?_,ky.o.2⟩;rw[ky.o.1];exact(Ub.o.set dG 0 _).set dG 1 _):p:=h
theorem KU(h:p:=by 
 go_enter func221,ntmps221
 go_wp2_with fail;exact bodyPost_ret (v:=.tuple #[.agg #[.int .i64 0,.int .i64 0],dE 9]) (by simp[results,results221,go_sem,dE]) rfl ⟨rfl,(Below.refl _ _).alloc af _⟩):p:=h
theorem bY(h:p:=by simp[intOf];omega):p:=h
theorem aaR(a0:A0)(h:Hid A0→p:=by 
 intro aP;have au:=aP;clear fO;go_wp2_with fail;try rw[Exit.noGoto_ret]
 exact bodyPost_ret (v:=.tuple #[.agg #[.bool false,.string ⟨ds.toArray⟩,.int .i64 0],.bool false]) (by simp[results,results217,go_sem,r0,r1,r2]) rfl ⟨false,ds,0,false,rfl,(((HB.o.setCell (by simp) _).setCell (by simp) _).setCell (by simp) _).setCell (by simp) _,by rw[← au.o];rfl⟩):p:=h a0
theorem aaS(a0:A0)(h:Hid A0→p:=by 
 intro aP;have au:=aP;clear fO;go_wp2_with fail;try rw[Exit.noGoto_ret]
 exact bodyPost_ret (v:=.tuple #[.agg #[.bool true,.string ⟨ds.toArray⟩,.int .i64 0],.bool false]) (by simp[results,results217,go_sem,r0,r1,r2]) rfl ⟨true,ds,0,false,rfl,(((HB.o.setCell (by simp) _).setCell (by simp) _).setCell (by simp) _).setCell (by simp) _,by rw[← au.o];rfl⟩):p:=h a0
theorem aiz(a0:A0)(h:Hid A0→p:=by 
 intro aP;go_wp2_with fail;(with_reducible refine aP.o.mono ?_)
 rintro aO au ⟨rfl,az⟩;have aV:=Qh (aH bE.o az af);obtain⟨⟨bM,cZ,dy,eK⟩,jF,kx,ll,pK⟩:=(df.o.keep az af).four;clear az kS;go_wp2_with fail;exact bodyPost_ret (v:=iq 2 (s.take n) n) (by simp[results,results81,go_sem,bM,cZ,dy,eK,iq,qj]) rfl ⟨by rw[HN.o],gp aV.o af _ _ _ _⟩):p:=h a0
theorem aaT(a0:A0)(h:Hid A0→p:=by 
 intro aP;refine wpAnyH_done (by kernel_rfl) ?_ _;try go_wp2_with fail
 have au:=aP.o;have az:ai _ (wo.heap.size+1) #[.int .i64 (b),.int .i64 (c)]:=(y9.put 0 (.int .i64 (b))).put 1 (.int .i64 (c));have aO:=fo au 33 _ hu rfl jw;have aV:=fo az 24 _ Uc rfl Ud;refine bodyPost_ret (v:=.tuple #[.agg bf,.int .i64 (a),.agg #[.int .i64 (b),.int .i64 (c)]]) (by simp[results,results22,Act.put,asAddr,aO,aV]) rfl ?_;exact aiA dv.o (((pL bE.o.drew af bf).setCell (p:=⟨wo.heap.size+1,0,none⟩) (by show wo.heap.size≤wo.heap.size+1;omega) _).setCell (p:=⟨wo.heap.size+1,1,none⟩) (by show wo.heap.size≤wo.heap.size+1;omega) _)):p:=h a0
theorem vk(h:p:=by obtain⟨rfl,hb⟩:=hrel;go_wp2_with fail;go_ret;exact⟨rfl,hb⟩):p:=h
theorem Hr(h:p:=by first|exact hHeld|exact⟨dx hHeld.1 bO,aH hHeld.2.1 bO af,hHeld.2.2.imp fun _=>Exists.imp fun _ h=>h.keep bO af⟩):p:=h
theorem aiB(a0:A0)(h:Hid A0→p:=by 
 intro aP;go_wp2_with fail;(with_reducible refine aP.o.mono ?_)
 rintro aO au ⟨rfl,az⟩;have aV:=Qh (aH bE.o az af);obtain⟨⟨bM,cZ,dy,eK⟩,jF,kx,ll,pK⟩:=(df.o.keep az af).four;clear az kS;go_wp2_with fail;exact bodyPost_ret (v:=gI 8) (by simp[results,results81,go_sem,bM,cZ,dy,eK,gI,qj]) rfl ⟨by rw[HN.o],gp aV.o af _ _ _ _⟩):p:=h a0
theorem Ue(h:p:=by 
 refine aG.vo (HO.o.fU (Nat.le_trans hB (by simp only[World.size_alloc];omega))) fun k hk=>?_
 have au:w.heap.size+1+1+1≤k:=Nat.le_trans (by simp) (HO.o.lt k hk).1;rw[gK _ _ _ _ (show k≠w.heap.size+1 by omega)];exact Below.heap_setCell _ _ _ _ (by show k≠w.heap.size+2;omega)):p:=h
theorem KW(h:p:=by 
 have:k=l.length:=by omega
 subst this;rw[List.take_length]at hown;obtain⟨a2,c2,rfl,-⟩:=hown.shape;go_wp2_with fail;go_ret;exact⟨_,rfl,hown,bP⟩):p:=h
theorem AU(kq:q)(h:Hid q→p:=by 
 intro kq;rintro au az aO aV bM -;obtain⟨cZ,dy,eK,jF⟩:∃ a n c,au=.slice a n c:=by obtain⟨a5,c5,e,-⟩:=aO.shape;exact⟨_,_,_,e⟩
 revert au az aO aV bM cZ dy eK jF;exact kq.o):p:=h kq
theorem ui(h:p:=by go_wp2_with fail;go_ret;exact⟨rfl,HB.o⟩):p:=h
theorem KX(kq:q)(h:Hid q→p:=by intro kq;rintro aV au ⟨rfl,az,aO⟩;replace HC:=Qh (eJ HC.o (by omega) az);replace HN:=Qh (aG.only HN.o dG az);replace HM:=Qh (aZ.Hs HM.o HP.o az (by decide) (lu _ (by decide) (by decide)));revert HM;revert HN;revert HC;revert aO;revert az;revert au;exact kq.o):p:=h kq
theorem aaU(h:p:=by exact⟨((za.other (a:=⟨wo.heap.size+1,0,none⟩) (by show wo.heap.size+1≠kr;omega) _).other (a:=⟨wo.heap.size+1,1,none⟩) (by show wo.heap.size+1≠kr;omega) _).cell 2 _ rfl,((za.other (a:=⟨wo.heap.size+1,0,none⟩) (by show wo.heap.size+1≠kr;omega) _).other (a:=⟨wo.heap.size+1,1,none⟩) (by show wo.heap.size+1≠kr;omega) _).cell 3 _ rfl,((za.other (a:=⟨wo.heap.size+1,0,none⟩) (by show wo.heap.size+1≠kr;omega) _).other (a:=⟨wo.heap.size+1,1,none⟩) (by show wo.heap.size+1≠kr;omega) _).cell 4 _ rfl⟩):p:=h
theorem wR(kq:q)(h:Hid q→p:=by intro kq;intro au az aO aV bM cZ;have dy:=Qh (HX.o.app aO aV bM cZ);clear aO aV bM cZ;revert au az dy;exact kq.o):p:=h kq
theorem AV(kq:q)(h:Hid q→p:=by 
 intro kq;obtain⟨au,az,aO,aV⟩:∃ a n c,v6=.slice a n c:=by obtain⟨a6,c6,e,-⟩:=kA.shape;exact⟨_,_,_,e⟩
 revert au az aO aV;exact kq.o):p:=h kq
theorem CP(h:p:=by unfold IntKind.wrap;simp[IntKind.bits,IntKind.signed];omega):p:=h
theorem Ht(a0:A0)(a1:A1)(h:Hid A0→Hid A1→p:=by intro aP fT;have au:=aP;have az:=fT;clear ho hq;go_wp2_with fail;go_ret;rw[HV.o];exact⟨rfl,au.o,az.o⟩):p:=h a0 a1
theorem OB(h:p:=by exact⟨i+1,4,back,pow,neg,down,ds,by omega,rfl,rfl,by first|rfl|go_num,by first|rfl|go_num,rfl,by first|rfl|go_num,by decide,by omega,CQ,by omega,HN.o,TR.o,TX.o,HB.o⟩):p:=h
theorem Hu(a0:A0)(h:Hid A0→p:=by intro aP;have au:=aP;clear hb;go_wp2_with fail;exact⟨rfl,by rw[HV.o];exact⟨rfl,au.o⟩⟩):p:=h a0
theorem aaV(h:p:=by 
 have au:∀ x,(w2.setCell ⟨w.heap.size,0,none⟩ x).cell? ⟨w.heap.size,1,none⟩=some (.int .i64 0):=fun x=>(bz.put 0 x).cell 1 _ rfl
 have az:∀ x,(w2.setCell ⟨w.heap.size,0,none⟩ x).frozen? ⟨w.heap.size,1,none⟩=false:=fun x=>(bz.put 0 x).free 1
 go_wp2_with fail;refine bodyPost_ret (v:=.agg #[.int .i64 0,.int .i64 0]) (by simp[results,results160,go_sem,z0,z1]) rfl ?_;rw[HV.o];exact⟨rfl,aA.new (aA.new aU.o _ af 0 _) _ af 1 _,(HQ.o.set dG 0 _).set dG 1 _⟩):p:=h
theorem aiC(h:p:=by go_wp2_with fail;go_ret;exact⟨by rw[HS.o]<;>rfl,bT.o⟩):p:=h
theorem aaW(kq:q)(h:Hid q→p:=by intro kq;rintro eK au ⟨az,aO,rfl,aV,bM,cZ,dy⟩;obtain⟨jF,kx⟩:=aiD aV;have ll:=ze fE aO 8 jF rfl;have pK:=Qh (aaX aV HO.o.size);replace HC:=Qh (eJ HC.o (by omega) bM);replace HN:=Qh (aG.only HN.o dG bM);replace HM:=Qh (aZ.Hs HM.o HP.o bM (by decide) (lu _ (by decide) (by decide)));replace HO:=Qh (HO.o.trans bM);replace HP:=Qh cZ;have EU:=Qh dy;clear bM cZ aV dy;have AR:Below au.heap.size au (au.alloc (.cells aO 39)):=(Below.refl _ _).alloc af _;have TW:=ai.new au aO 39;replace HC:=Qh (bF HC.o AR);replace HO:=Qh (HO.o.trans (aA.of_below kr AR));replace HP:=Qh (HP.o.keep AR);replace HN:=Qh (HN.o.keep AR af);replace HM:=Qh (HM.o.keep (qQ _) AR);have TY:=Qh (qQ _ _ _ _ _ pK.o AR);clear AR pK;revert TY;revert HM;revert HN;revert HP;revert HO;revert HC;revert TW;revert EU;revert ll;revert kx;revert jF;revert aO;revert az;revert au;exact kq.o):p:=h kq
theorem Uf(h:p:=by refine wpQuiet_nil ?_;rintro _ ⟨au,rfl⟩;have az:=Qh (aH bX.o au.below af);generalize au.w=w3 at *;go_wp2_with fail;rw[Exit.noGoto_ret];go_wp2_with fail;rw[Exit.noGoto_ret];go_wp2_with fail;go_ret;exact⟨rfl,az.o⟩):p:=h
theorem aaY(h:p:=by refine⟨_,fun w hw=>?_,h⟩;unfold Oper.quietAt execOp;simp only[ho,hx,Instr.loadAt,Instr.sureAddr,Sem.run_bind,Sem.run_pure,Result.andThen_ok,run_loadVar_mid (P:=P) w k off ty cs d (hS w hw) hu hd hi];exact⟨rfl,rfl⟩):p:=h
theorem aiE(kq:q)(h:Hid q→p:=by intro kq;rintro aO au ⟨rfl,az⟩;have aV:=Qh (aH HB.o az af);revert au az aV;exact kq.o):p:=h kq
theorem lz(h:p:=by exact⟨rfl,rfl⟩):p:=h
theorem OC(kq:q)(h:Hid q→p:=by intro kq;unfold Oper.wp execOp;simp only[ho,resolve,invoke,builtin,Sem.run_bind,Sem.run_pure,Result.andThen_ok,List.map_toArray,List.map_cons,List.map_nil,hs,hx,hr];exact kq.o):p:=h kq
theorem KY(kq:q)(h:Hid q→p:=by 
 intro kq;have au:∀ o1 o2,Below w.heap.size w ((w.alloc o1).alloc o2):=fun o1 o2=>((Below.refl w.heap.size w).alloc af o1).alloc (by simp) o2
 revert au;exact kq.o):p:=h kq
theorem zf(a0:A0)(kq:q)(h:Hid A0→Hid q→p:=by intro aP kq;obtain⟨au,az⟩:=aP.o;have aO:=az.cell 1 (.int .i64 (i:Nat)) rfl;have aV:=az.free 1;revert au az aO aV;exact kq.o):p:=h a0 kq
theorem Hv(kq:q)(h:Hid q→p:=by 
 intro kq;have au:s.drop k≠[]:=(by intro h;have:=congrArg List.length h;rw[List.length_drop]at this;simp at this;omega)
 revert au;exact kq.o):p:=h kq
theorem OD(kq:q)(h:Hid q→p:=by intro kq;refine leaves_cons (f:=34) (args:=#[.pointer (some ⟨w.heap.size,0,none⟩),.pointer (some ⟨w.heap.size+1,0,none⟩)]) (by simp) (by simp[go_sem]) ?_;exact kq.o):p:=h kq
theorem fx(a0:A0)(a1:A1)(a2:A2)(a3:A3)(kq:q)(h:Hid A0→Hid A1→Hid A2→Hid A3→Hid q→p:=by intro aP fT nx uj kq;have au:=aP;have az:=fT;have aO:=nx;have aV:=uj;revert au az aO aV;exact kq.o):p:=h a0 a1 a2 a3 kq
theorem aug(a0:A0)(kq:q)(h:Hid A0→Hid q→p:=by 
 intro aP kq;have au:(prog.info? 39).map (·.size)=some es.length:=(by rw[show es.length=8 by simpa using nB];exact ql)
 have az:=fun z:aW W5=>KZ ms[i] z.w es.toArray ds.toArray (by simpa using iE _ _ _ _ AW.o z.below) (by simpa using iE _ _ _ _ AX.o z.below)
 have aO:=aP.o
 have aV:∀ v,(∃ z:aW W5,v=z.w)→v.rangeAt k5 0 es:=(by rintro _ ⟨z,rfl⟩;exact aW.range (by simpa using sQ.o) z)
 have bM:∀ v,(∃ z:aW W5,v=z.w)→v.rangeAt bb (ob+i*8) ds:=(by rintro _ ⟨z,rfl⟩;exact aW.range vp.o z)
 revert au az aO aV bM;exact kq.o):p:=h a0 kq
theorem aQ(a0:A0)(kq:q)(h:Hid A0→Hid q→p:=by intro aP kq;refine aI aP.o ?_;rintro aO au ⟨rfl,az⟩;revert au az;exact kq.o):p:=h a0 kq
theorem jg(a0:A0)(a1:A1)(h:Hid A0→Hid A1→p:=by intro aP fT;refine Mqh aP.o fT.o ?_;intro au dv;go_wp2_with fail;refine aI au ?_;clear au;exact Mqc):p:=h a0 a1
theorem auh(a0:A0)(a1:A1)(a2:A2)(a3:A3)(h:Hid A0→Hid A1→Hid A2→Hid A3→p:=by 
 intro aP fT nx uj;rintro e w1 ⟨rfl,rfl⟩;generalize w.alloc (.cells #[.int .i64 0,.string ⟨#[]⟩,.int .i64 0,.int .i64 0] 129)=W at *;obtain⟨⟨au,az,aO,aV⟩,bM,cZ,dy,eK⟩:=aP.o;go_wp2_with fail;(with_reducible refine fT.o.mono ?_)
 rintro e w2 ⟨rfl,rfl⟩;go_wp2_with fail;(with_reducible refine nx.o.mono ?_)
 rintro e w4 ⟨rfl,rfl⟩;clear lA;clear au az aO aV bM cZ dy eK;exact Mqf uj.o):p:=h a0 a1 a2 a3
theorem aui(a0:A0)(a1:A1)(a2:A2)(a3:A3)(h:Hid A0→Hid A1→Hid A2→Hid A3→p:=by 
 intro aP fT nx uj;go_enter func81,ntmps81
 go_wp2_with fail;(with_reducible refine aP.o.mono ?_)
 rintro e w1 ⟨rfl,rfl⟩;generalize w.alloc (.cells #[.int .i64 0,.string ⟨#[]⟩,.int .i64 0,.int .i64 0] 129)=W at *;obtain⟨⟨au,az,aO,aV⟩,bM,cZ,dy,eK⟩:=fT.o;clear cl;go_wp2_with fail;(with_reducible refine nx.o.mono ?_)
 rintro e w2 ⟨rfl,rfl⟩;clear au az aO aV bM cZ dy eK;exact Mqf uj.o):p:=h a0 a1 a2 a3
theorem dF(a0:A0)(kq:q)(h:Hid A0→Hid q→p:=by intro aP kq;refine aI aP.o ?_;rintro aV au ⟨rfl,az,aO⟩;revert au az aO;exact kq.o):p:=h a0 kq
theorem CS(a0:A0)(h:Hid A0→p:=by 
 intro aP;go_enter func161,ntmps161
 go_wp2_with fail;refine aI aP.o ?_;clear cq;exact Mqj):p:=h a0
theorem K6(h:p:=by go_wp2_with fail;exact⟨rfl,by rw[dv.o];exact⟨rfl,qR.o⟩⟩):p:=h
theorem auj(a0:A0)(kq:q)(h:Hid A0→Hid q→p:=by 
 intro aP kq;have au:(prog.info? 43).map (·.size)=some es.length:=(by rw[show es.length=6 by simpa using nB];exact rM)
 have az:=fun z:aW W5=>OE tb[i] z.w es.toArray ds.toArray (by simpa using jP _ _ _ _ AW.o z.below) (by simpa using jP _ _ _ _ AX.o z.below)
 have aO:=aP.o
 have aV:∀ v,(∃ z:aW W5,v=z.w)→v.rangeAt k5 0 es:=(by rintro _ ⟨z,rfl⟩;exact aW.range (by simpa using sQ.o) z)
 have bM:∀ v,(∃ z:aW W5,v=z.w)→v.rangeAt bb (ob+i*6) ds:=(by rintro _ ⟨z,rfl⟩;exact aW.range vp.o z)
 revert au az aO aV bM;exact kq.o):p:=h a0 kq
theorem wS(kq:q)(h:Hid q→p:=by intro kq;refine aL ?_;refine wpAnyH_done (by kernel_rfl) ?_ _;exact kq.o):p:=h kq
theorem auk(a0:A0)(kq:q)(h:Hid A0→Hid q→p:=by 
 intro aP kq;(with_reducible refine aP.o.mono ?_)
 rintro aO au ⟨rfl,az⟩;have aV:=Qh (aH bE.o az af);obtain⟨⟨bM,cZ,dy,eK⟩,jF,kx,ll,pK⟩:=(df.o.keep az af).four;clear az;revert au aV bM cZ dy eK jF kx ll pK;exact kq.o):p:=h a0 kq
theorem aaZ(a0:A0)(a1:A1)(a2:A2)(kq:q)(h:Hid A0→Hid A1→Hid A2→Hid q→p:=by intro aP fT nx kq;obtain⟨au,az,-⟩:=aP.o;have aO:=Qh (jQ fF.o az (by decide) gL);have aV:=Qh (jQ vu.o az (by decide) gL);have bM:=fT;have cZ:=nx;have dy:=ai.cell ⟨_,aO.o⟩ 7 (.slice av l.length cv) rfl;have eK:=ai.free ⟨_,aO.o⟩ 7;have jF:=Qh (bJ aO.o 7 (.slice a6 n6 c6));have kx:=Qh (dH aV.o (show w.heap.size≠ks by omega) 7 (.slice a6 n6 c6));have ll:=Qh (aA.new bM.o ks cz 7 (.slice a6 n6 c6));have pK:=Qh (bD.set cZ.o dL 7 (.slice a6 n6 c6));have EU:=Qh (kA.dn (by decide) (vw _ (by decide)) aO.o (by simp[World.setCell]) (fun b _ hne=>Below.heap_setCell _ ⟨ks,7,none⟩ (.slice a6 n6 c6) b hne));revert au az aO aV bM cZ dy eK jF kx ll pK EU;exact kq.o):p:=h a0 a1 a2 kq
theorem EV(h:p:=by 
 go_wp2_with fail;go_ret2
 exact⟨by rw[HV.o]<;>rfl,Below.refl _ _⟩):p:=h
theorem Ug(a0:A0)(a1:A1)(a2:A2)(kq:q)(h:Hid A0→Hid A1→Hid A2→Hid q→p:=by intro aP fT nx kq;refine aL ?_;refine aa0 (by kernel_rfl) ?_ _;have au:=aP;have az:=Qh (dH vu.o (show w.heap.size≠ks by omega) 18 (.slice a5 n5 c5));have aO:=fT;have aV:=nx;have bM:=Qh (fP.dn (by decide) fF.o (fun b _ hne=>Below.heap_setCell _ ⟨ks,18,none⟩ (.slice a5 n5 c5) b hne));revert au az aO aV bM;exact kq.o):p:=h a0 a1 a2 kq
theorem Uh(kq:q)(h:Hid q→p:=by 
 intro kq;have au:((R:Int) == 10)=false:=(by rw[e];rfl)
 have az:¬ R=10:=(by omega)
 have aO:=Qh (EW.o u _ _ acc OG (by rw[K8.o (by rw[hb2];rintro⟨_,h⟩;cases h)];unfold bW;rw[if_neg az]) (by omega) (.inr ⟨rfl,rfl⟩));clear az;revert au aO;exact kq.o):p:=h kq
theorem OH(a0:A0)(h:Hid A0→p:=by 
 intro aP;go_wp2_with fail;refine aI aP.o ?_;rintro e w ⟨rfl,rfl⟩;go_wp2_with fail;go_ret2
 exact⟨_,_,rfl,rfl,(fun h=>by cases h),fun _=>HN.o⟩):p:=h a0
theorem jH(a0:A0)(kq:q)(h:Hid A0→Hid q→p:=by intro aP kq;refine aI aP.o ?_;rintro bM au ⟨az,rfl,aO,aV⟩;revert au az aO aV;exact kq.o):p:=h a0 kq
theorem K9(a0:A0)(a1:A1)(kq:q)(h:Hid A0→Hid A1→Hid q→p:=by intro aP fT kq;rw[hX]at cc;unfold fN at cc;unfold eG bZ at cc;have au:=aP.o;rw[hX,PR.ku]at au;have az:=Qh au;obtain⟨aO,aV⟩:=fT.o;have bM:=aO;have cZ:=Qh aV;clear au aO aV;revert cZ;revert bM;revert az;revert cc;exact kq.o):p:=h a0 a1 kq
theorem zg(kq:q)(h:Hid q→p:=by intro kq;refine aL ?_;refine CT 3 rfl (by kernel_rfl) (fun au az=>?_);revert au az;exact kq.o):p:=h kq
theorem zh(kq:q)(h:Hid q→p:=by intro kq;refine aL ?_;refine CT 4 rfl (by kernel_rfl) (fun au az=>?_);revert au az;exact kq.o):p:=h kq
theorem aa1(a0:A0)(h:Hid A0→p:=by intro aP;have au:=aP.o;go_wp2_with fail;refine aI au ?_;refine TU ?_;intro az aO aV gJ Ub bM z0 z1 cZ dy eK jF;have ky:=Qh (show R.2=((aF.bad 8 L C).run eL (dJ 3)).2∧(R.2.isOk→R.1=(z,((aF.bad 8 L C).run eL (dJ 3)).1.text))from ⟨by rw[HV.o];rfl,fun h=>by rw[HV.o]at h;exact h.elim⟩);clear au aO aV;generalize ((aF.bad 8 L C).run eL (dJ 3)).1.text=TX at *;exact Ua):p:=h a0
theorem OI(kq:q)(h:Hid q→p:=by 
 intro kq;have au:k < s.length:=(by omega)
 have az:(⟨s.toArray⟩:ByteArray)[k]'au = s[k]:=rfl;have aO:=List.drop_eq_getElem_cons au;revert au az aO;exact kq.o):p:=h kq
theorem fQ(a0:A0)(a1:A1)(a2:A2)(a3:A3)(kq:q)(h:Hid A0→Hid A1→Hid A2→Hid A3→Hid q→p:=by intro aP fT nx uj kq;have au:=aP;have az:=fT;have aO:=nx;have aV:=uj.o;revert au az aO aV;exact kq.o):p:=h a0 a1 a2 a3 kq
theorem aul(a0:A0)(a1:A1)(a2:A2)(a3:A3)(h:Hid A0→Hid A1→Hid A2→Hid A3→p:=by 
 intro aP fT nx uj;rw[h0]at kS;clear h0;go_enter func81,ntmps81
 go_wp2_with fail;(with_reducible refine aP.o.mono ?_)
 rintro e w1 ⟨rfl,rfl⟩;generalize w.alloc (.cells #[.int .i64 0,.string ⟨#[]⟩,.int .i64 0,.int .i64 0] 129)=W at *;obtain⟨⟨au,az,aO,aV⟩,bM,cZ,dy,eK⟩:=fT.o;clear cl;go_wp2_with fail;(with_reducible refine nx.o.mono ?_)
 rintro e w2 ⟨rfl,rfl⟩;go_wp2_with fail;(with_reducible refine uj.o.mono ?_)
 rintro e w4 ⟨rfl,rfl⟩;clear lA;clear au az aO aV bM cZ dy eK;exact aiB (kS _)):p:=h a0 a1 a2 a3
theorem uk(kq:q)(h:Hid q→p:=by intro kq;refine wpQuiet_nil ?_;rintro _ ⟨au,rfl⟩;revert au;exact kq.o):p:=h kq
theorem EX(kq:q)(h:Hid q→p:=by intro kq;refine aL ?_;refine Ui 7 rfl (by kernel_rfl) (by kernel_rfl) (fun au az=>?_);revert au az;exact kq.o):p:=h kq
theorem aa2(h:p:=by 
 have au:((pt:Int) != 3)=true:=(by rw[bne_iff_ne];omega)
 have az:((pt:Int) != 1)=true:=(by rw[bne_iff_ne];omega)
 have HN:=Qh (show none=R by rw[← fO.o,zi (by decide) (fun h=>absurd h (by decide)) (fun h=>absurd h (by decide)) (fun _=>⟨h1,h3⟩)];rfl);clear fO;exact KQ):p:=h
theorem Hw(a0:A0)(kq:q)(h:Hid A0→Hid q→p:=by intro aP kq;refine aI aP.o ?_;refine Hq ?_;intro au az HC HO HP;replace HN:=Qh (HN.o.keep az af);replace HM:=Qh (HM.o.keep (qQ _) az);revert HM;revert HN;revert HP;revert HO;revert HC;revert az;revert au;exact kq.o):p:=h a0 kq
theorem aiF(kq:q)(h:Hid q→p:=by 
 intro kq;have au:ai (W.alloc (.cells #[.int .i64 L,.int .i64 K] 24)) (k+1) #[.int .i64 L,.int .i64 K]:=(by rw[← hsz];exact ai.new W _ _)
 revert au;exact kq.o):p:=h kq
theorem aa3(kq:q)(h:Hid q→p:=by 
 intro kq;refine jd ?_;intro au HZ HC HO az;have aO:=ai.cell ⟨_,HC.o⟩ 2 (.int .u32 0) rfl;have aV:=ai.free ⟨_,HC.o⟩ 2;have bM:=ai.cell ⟨_,HC.o⟩ 3 (.bool false) rfl;have cZ:=ai.free ⟨_,HC.o⟩ 3;have dy:∀ v,(au.setCell ⟨ks,2,none⟩ v).cell? ⟨ks,3,none⟩=some (.bool false):=fun v=>ai.cell ⟨_,bJ HC.o 2 v⟩ 3 _ rfl
 have eK:∀ v,(au.setCell ⟨ks,2,none⟩ v).frozen? ⟨ks,3,none⟩=false:=fun v=>ai.free ⟨_,bJ HC.o 2 v⟩ 3
 revert au HZ HC HO az aO aV bM cZ dy eK;exact kq.o):p:=h kq
theorem vz(h:p:=by exact⟨rfl,Below.refl _ _⟩):p:=h
theorem aa4(h:p:=by exact⟨i+1,3,back+1,pow,neg,down,(ds++[c]),by omega,rfl,rfl,by first|rfl|go_num,by first|rfl|go_num,rfl,by first|rfl|go_num,by decide,by omega,CQ,(by simp;omega),HN.o,TR.o.other (by show w.heap.size+1≠w.heap.size;omega) _,TX.o.set 1 _,HB.o.setCell (by simp) _⟩):p:=h
theorem aa5(a0:A0)(h:Hid A0→p:=by intro aP;go_wp2_with fail;refine aI aP.o ?_;rintro e w3 ⟨rfl,rfl⟩;exact aiC):p:=h a0
theorem aa6(h:p:=by 
 go_enter func221,ntmps221
 go_wp2_with fail;exact bodyPost_ret (v:=.tuple #[.agg #[.int .i64 (wrap64 (IntKind.u64.wrap (-(nl:Int)))),.int .i64 dl],.nilIface]) (by simp[results,results221,go_sem]) rfl ⟨by rw[HC.o,OJ.o.1,OJ.o.2];rfl,(Below.refl _ _).alloc af _⟩):p:=h
theorem nC(h:p:=by (simp[intOf]<;>omega)):p:=h
theorem aa7(h:p:=by 
 refine aG.vo (HO.o.fU (Nat.zero_le _)) fun k hk=>?_
 have au:w.heap.size+1+1≤k:=Nat.le_trans (by simp) (HO.o.lt k hk).1;rw[gK _ _ _ _ (show k≠w.heap.size+1 by omega)];exact Below.heap_setCell _ _ _ _ (by show k≠w.heap.size;omega)):p:=h
theorem Uj(kq:q)(h:Hid q→p:=by intro kq;unfold Oper.wp execOp;simp only[ho,hx,hy,Instr.storeAt,Instr.sureAddr,Sem.run_bind,Sem.run_pure,Result.andThen_ok,run_storeVar_row w k T ty old cs hb hi hs h1];exact kq.o):p:=h kq
theorem aa8(h:p:=by go_wp2_with fail;exact bodyPost_ret (v:=.tuple #[.int .i64 6,.agg #[.int .i64 L,.int .i64 C]]) (by simp[results,results101,go_sem,r0,r1]) rfl ⟨by rw[HX.o],(bX.o.drew.setCell (p:=⟨w.heap.size,0,none⟩) af _).setCell (p:=⟨w.heap.size,1,none⟩) af _⟩):p:=h
theorem wT(h:p:=by rw[iterPos_of gM.o.it,HM.o];omega):p:=h
theorem aa9(h:p:=by exact⟨aH hHeld.1 hb' hB,dx hHeld.2.1 hb',Nat.le_trans hHeld.2.2.1 hb'.size,fun j=>by rw[aba hb' (show g < _ from Nat.lt_of_lt_of_le Uk hHeld.2.2.1)];exact hHeld.2.2.2.1 j,hHeld.2.2.2.2.imp (fun h=>h.keep hB hb') (fun h=>h.keep hB hb')⟩):p:=h
theorem abb(h:p:=by first|(refine Or.inr ⟨?_,?_⟩<;>rfl)|(refine Or.inl ⟨by rfl,?_⟩;intro w hSw;(try dsimp only at hSw);first|(obtain⟨TS,hS1,hS2⟩:=hSw;go_simp;done)|(obtain⟨TS,hS1,hS2⟩:=hSw;go_simp;with_reducible rfl)|(go_simp;done)|(go_simp;with_reducible rfl))):p:=h
theorem abc(h:p:=by go_wp2_with fail;exact bodyPost_ret (v:=.tuple #[.agg #[.int .i64 1,.string ⟨nm.toArray⟩,.int .i64 0,.int .i64 0],.int .i64 ((i+n:Nat):Int),.int .i64 0]) (by simp[results,results104,go_sem,r0,r1,r2,r3]) rfl ⟨by rw[HN.o],gp dS.o af _ _ _ _⟩):p:=h
theorem Ul(a0:A0)(h:Hid A0→p:=by 
 intro aP;go_enter func23,ntmps23
 go_wp2_with fail;refine aI aP.o ?_;rintro e w1 ⟨rfl,rfl⟩;go_wp2_with fail;go_ret;exact⟨rfl,(Below.refl _ _).alloc af _⟩):p:=h a0
theorem aum(h:p:=by go_wp2_with fail;go_ret;exact⟨by rw[HV.o]<;>rfl,HB.o⟩):p:=h
theorem Um(h:p:=by obtain⟨j,hj,rfl,-⟩:=Un;exact⟨(T.drop j).length,(fun ts e=>by cases e;exact⟨af,by rw[List.length_drop];omega⟩),HR.o⟩):p:=h
theorem CU(kq:q)(h:Hid q→p:=by intro kq;refine aL ?_;refine CT 5 rfl (by kernel_rfl) (fun au az=>?_);revert au az;exact kq.o):p:=h kq
theorem OL(h:p:=by exact pL (hb5.setCell (by show w.heap.size≤w.heap.size+2;omega) _) (by omega) _):p:=h
theorem nD(kq:q)(h:Hid q→p:=by intro kq;unfold aF.run;simp only;exact kq.o):p:=h kq
theorem abd(kq:q)(h:Hid q→p:=by intro kq;have au:oV na da=true:=(La na da ⟨by omega,by omega⟩ ⟨by omega,by omega⟩).2 Uo.o;have az:oV nb db=true:=(La nb db ⟨by omega,by omega⟩ ⟨by omega,by omega⟩).2 Up.o;have aO:=OM na da ⟨by omega,by omega⟩ ⟨by omega,by omega⟩;have aV:=OM nb db ⟨by omega,by omega⟩ ⟨by omega,by omega⟩;revert au az aO aV;exact kq.o):p:=h kq
theorem abe(h:p:=by refine⟨(jG.refl _ _).setCell (p:=⟨w.heap.size+1,0,none⟩) (by have:=HZ.o;show w.heap.size+1 < _;omega) _,bE.o.setCell (p:=⟨w.heap.size+1,0,none⟩) (by show _≤w.heap.size+1;omega) _,u,hu1,?_⟩;rw[hu2,hu3];exact aM.o.st 0 _):p:=h
theorem aiG(kq:q)(h:Hid q→p:=by 
 intro kq;have au:((r:Int) == 32)=(r == 32):=(by rw[Bool.eq_iff_iff,beq_iff_eq,beq_iff_eq];omega)
 have az:((r:Int) == 9)=(r == 9):=(by rw[Bool.eq_iff_iff,beq_iff_eq,beq_iff_eq];omega)
 have aO:((r:Int) == 10)=(r == 10):=(by rw[Bool.eq_iff_iff,beq_iff_eq,beq_iff_eq];omega)
 have aV:((r:Int) == 13)=(r == 13):=(by rw[Bool.eq_iff_iff,beq_iff_eq,beq_iff_eq];omega)
 revert au az aO aV;exact kq.o):p:=h kq
theorem Hx(h:p:=by go_wp2_with fail;go_ret;exact lz):p:=h
theorem CV(h:p:=by go_wp2_with fail;go_ret;exact⟨rfl,hb⟩):p:=h
theorem abf(h:p:=by simp only[kT,dE];go_wp2_with fail;exact bodyPost_ret (v:=.tuple #[.agg #[.int .i64 0,.int .i64 0],dE 9]) (by simp[results,results193,go_sem,r0,r1,dE]) rfl ⟨by rw[um.o];rfl,(nG.o.setCell (by simp) _).setCell (by simp) _⟩):p:=h
theorem abg(h:p:=by 
 have au:fq d=false:=(by rw[Bool.eq_false_iff];intro h;have:=qm.1 h;omega)
 exact aaR (show none=R by rw[← fO.o,zj.o,show lW ⟨0,neg,ds,back,pow,down⟩ 43 (d::s.drop (i+1+1))=none by (unfold lW headD;simp[au,eW])];rfl)):p:=h
theorem abh(h:p:=by 
 have au:fq d=false:=(by rw[Bool.eq_false_iff];intro h;have:=qm.1 h;omega)
 exact aaS (show none=R by rw[← fO.o,zj.o,show lW ⟨0,neg,ds,back,pow,down⟩ 45 (d::s.drop (i+1+1))=none by (unfold lW headD;simp[au,eW])];rfl)):p:=h
theorem Lb(kq:q)(h:Hid q→p:=by 
 intro kq;have au:w.heap.size < W1.heap.size:=(gE HZ.o)
 have az:w.heap.size≤W1.heap.size:=Nat.le_of_lt au;revert au az;exact kq.o):p:=h kq
theorem aun(a0:A0)(a1:A1)(h:Hid A0→Hid A1→p:=by intro aP fT;go_wp2_with fail;refine aP.o.mono ?_;rintro e w1 ⟨kk,rfl,rN,rfl⟩;have au:=fT;clear rN ct;go_wp2_with fail;go_ret;exact⟨_,rfl,au.o,HF.o _,hb⟩):p:=h a0 a1
theorem abj(h:p:=by simp only[kT];go_wp2_with fail;exact bodyPost_ret (v:=.tuple #[.agg #[.int .i64 x,.int .i64 y],.nilIface]) (by simp[results,results193,go_sem,r0,r1]) rfl ⟨by rw[um.o];rfl,(nG.o.setCell (by simp) _).setCell (by simp) _⟩):p:=h
theorem Uq(h:p:=by intro au az aO;rw[Addr.add_lit,Nat.zero_add,cell_of_row _ _ _ cells ty (0,0) (heap_alloc_new wr _)];rw[← aO,← hy];simp):p:=h
theorem EY(h:p:=by exact⟨0,Nat.zero_le _,rfl,Below.refl _ _⟩):p:=h
theorem aY(a0:A0)(a1:A1)(a2:A2)(kq:q)(h:Hid A0→Hid A1→Hid A2→Hid q→p:=by intro aP fT nx kq;have au:=aP;have az:=fT;have aO:=nx;revert au az aO;exact kq.o):p:=h a0 a1 a2 kq
theorem Hy(a0:A0)(h:Hid A0→p:=by intro aP;go_wp2_with fail;refine aQ aP.o ?_;intro au hb;clear cF;exact CO (aA.of_below kp (aH HB.o hb af))):p:=h a0
theorem OO(a0:A0)(kq:q)(h:Hid A0→Hid q→p:=by intro aP kq;refine aQ aP.o ?_;intro au az;replace HS:=Qh (HS.o.keep az af);replace LS:=Qh (LS.o.keep az);replace HC:=Qh (bF HC.o az);replace HB:=Qh (HB.o.trans (az.mono (Nat.le_trans hsz HB.o.size)));clear az;revert HB;revert HC;revert LS;revert HS;revert au;exact kq.o):p:=h a0 kq
theorem OP(a0:A0)(h:Hid A0→p:=by intro aP;go_wp2_with fail;refine aQ aP.o ?_;intro au az;have aO:=aH (HB.o _ _) az (by simp);go_wp2_with fail;go_ret;exact⟨rfl,aO⟩):p:=h a0
theorem OQ(a0:A0)(kq:q)(h:Hid A0→Hid q→p:=by intro aP kq;refine aQ aP.o ?_;intro au az;replace kU:=Qh (kU.o.keep nZ az);replace mN:=Qh (mN.o.keep nZ az);replace HD:=Qh (E3 _ _ _ _ _ HD.o az);replace HB:=Qh (aH HB.o az af);revert HB;revert HD;revert mN;revert kU;revert az;revert au;exact kq.o):p:=h a0 kq
theorem CW(a0:A0)(kq:q)(h:Hid A0→Hid q→p:=by intro aP kq;refine aQ aP.o ?_;intro au az;replace HW:=Qh (HW.o.keep az);replace HB:=Qh (aH HB.o az af);revert HB;revert HW;revert az;revert au;exact kq.o):p:=h a0 kq
theorem Hz(a0:A0)(kq:q)(h:Hid A0→Hid q→p:=by intro aP kq;refine aQ aP.o ?_;intro au az;have aO:=Qh (aH dS.o az af);have aV:=uq.o.keep az af;clear az;obtain⟨⟨bM,cZ,dy,eK⟩,jF,kx,ll,pK⟩:=aV.four;revert au aO aV bM cZ dy eK jF kx ll pK;exact kq.o):p:=h a0 kq
theorem Lc(a0:A0)(kq:q)(h:Hid A0→Hid q→p:=by intro aP kq;refine dF aP.o ?_;intro au az aO;replace HC:=Qh (eJ HC.o (by omega) az);replace HO:=Qh (HO.o.trans az);replace HP:=Qh aO;clear az aO;revert HP;revert HO;revert HC;revert au;exact kq.o):p:=h a0 kq
theorem Ur(a0:A0)(kq:q)(h:Hid A0→Hid q→p:=by intro aP kq;refine aQ aP.o ?_;intro au az;replace HR:=Qh (HR.o.keep az af);replace LR:=Qh (LR.o.keep az);replace HS:=Qh (HS.o.keep az af);replace LS:=Qh (LS.o.keep az);replace HC:=Qh (bF HC.o az);replace HB:=Qh (HB.o.trans (az.mono (Nat.le_trans hsz HB.o.size)));clear az;revert HB;revert HC;revert LS;revert HS;revert LR;revert HR;revert au;exact kq.o):p:=h a0 kq
theorem OS(a0:A0)(h:Hid A0→p:=by intro aP;go_wp2_with fail;refine aQ aP.o ?_;intro au az;replace HB:=Qh (aH HB.o az af);clear az HW;exact ui):p:=h a0
theorem abk(a0:A0)(h:Hid A0→p:=by intro aP;go_wp2_with fail;refine dF aP.o ?_;intro au az aO;have aV:=Qh (O4.o.trans (qo.Ld az));have bM:=Qh aO;have cZ:=Qh ((az.block ks abl (by simp;omega)).trans N4.o);clear az aO cN;go_wp2_with fail;refine⟨rfl,.tuple #[],by simp[results,results172],?_⟩;rw[HV.o];exact⟨rfl,aV.o,bM.o,cZ.o⟩):p:=h a0
theorem qT(a0:A0)(kq:q)(h:Hid A0→Hid q→p:=by intro aP kq;refine aQ aP.o ?_;intro au az;have aO:=Qh az;clear az;revert au aO;exact kq.o):p:=h a0 kq
theorem abm(a0:A0)(h:Hid A0→p:=by 
 intro aP;refine aQ aP.o ?_;intro au az;have aO:=Qh (HO.o.trans (aA.of_below kr az));have aV:=cf au ((dY.o.keep az).AY hi);clear az pN cf;go_wp2_with fail;refine dF aV ?_;intro bM cZ dy;have eK:=Qh (aO.o.trans cZ);have jF:=Qh dy;clear aV cZ dy;go_wp2_with fail;go_ret2
 rw[HV.o];exact⟨rfl,eK.o,jF.o⟩):p:=h a0
theorem abn(a0:A0)(h:Hid A0→p:=by intro aP;generalize jR two i=d at *;obtain⟨au,az,aO,aV⟩:=aP.o;go_wp2_with fail;exact bodyPost_ret (v:=.tuple #[.agg #[.int .i64 0,.int .i64 0],dE 9]) (by simp[results,results254,go_sem,au,az,dE]) rfl ⟨by rw[HN.o];rfl,(bX.o.setCell (by simp) _).setCell (by simp) _⟩):p:=h a0
theorem abo(h:p:=by have au:((pt:Int) == 4)=false:=jy (by omega);have HN:=Qh (show none=R by rw[← fO.o,zi (by decide) (fun _=>⟨ia,OT⟩) (fun h=>absurd h (by decide)) (fun h=>absurd h (by decide))];rfl);clear fO;exact KQ):p:=h
theorem zk(a0:A0)(kq:q)(h:Hid A0→Hid q→p:=by intro aP kq;refine aQ aP.o ?_;intro au az;have aO:=Qh (aA.of_below kr az);revert au az aO;exact kq.o):p:=h a0 kq
theorem abp(a0:A0)(h:Hid A0→p:=by intro aP;have au:=aP.o;clear n9;go_wp2_with fail;refine aI au ?_;rintro aV az ⟨aO,rfl,-,-,hb⟩;have bM:=Qh (Le.o.trans (aA.of_below kp hb));have cZ:=cg 8 az (OU.o.keep hb);clear hb au cg;go_wp2_with fail;refine aQ (cZ) ?_;intro dy hb;exact Hu (bM.o.trans (aA.of_below kp hb))):p:=h a0
theorem abq(a0:A0)(h:Hid A0→p:=by intro aP;rw[hY]at cc;unfold fN at cc;have au:=aP.o;rw[hY,PR.ug,PR.ug]at au;have az:=Qh au;clear au hY;go_wp2_with fail;refine aQ cc ?_;intro aO aV;have bM:=Qh (aU.o.trans aV);clear cc aV;go_wp2_with fail;exact⟨rfl,by rw[az.o];exact⟨rfl,bM.o⟩⟩):p:=h a0
theorem ur(h:p:=by exact⟨by rw[HB.o],rfl⟩):p:=h
theorem auo(a0:A0)(a1:A1)(a2:A2)(a3:A3)(h:Hid A0→Hid A1→Hid A2→Hid A3→p:=by 
 intro aP fT nx uj;rintro e w1 ⟨rfl,rfl⟩;generalize w.alloc (.cells #[.int .i64 0,.string ⟨#[]⟩,.int .i64 0,.int .i64 0] 129)=W at *;obtain⟨⟨au,az,aO,aV⟩,bM,cZ,dy,eK⟩:=aP.o;go_wp2_with fail;(with_reducible refine fT.o.mono ?_)
 rintro e w2 ⟨rfl,rfl⟩;go_wp2_with fail;(with_reducible refine nx.o.mono ?_)
 rintro e w4 ⟨rfl,rfl⟩;clear lA;clear au az aO aV bM cZ dy eK;exact aiz uj.o):p:=h a0 a1 a2 a3
theorem Lf(a0:A0)(kq:q)(h:Hid A0→Hid q→p:=by intro aP kq;refine aQ aP.o ?_;intro au az;have aO:=Qh (aH aM.o az af);revert au az aO;exact kq.o):p:=h a0 kq
theorem abr(h:p:=by go_wp2_with fail;exact bodyPost_ret (v:=.tuple #[.agg #[.int .i64 0,.int .i64 0],dE 9]) (by simp[results,results254,go_sem,r0,r1,dE]) rfl ⟨by rw[HN.o];rfl,(bE.o.setCell (by simp) _).setCell (by simp) _⟩):p:=h
theorem abt(h:p:=by go_wp2_with fail;exact bodyPost_ret (v:=.tuple #[.agg #[.int .i64 0,.int .i64 0],.int .i64 9]) (by simp[results,results180,go_sem,r0,r1]) rfl ⟨by rw[HN.o];rfl,(HB.o.setCell (by simp) _).setCell (by simp) _⟩):p:=h
theorem aiH(h:p:=by go_wp2_with fail;go_ret;exact⟨by rw[HS.o]<;>rfl,aM.o⟩):p:=h
theorem Us(kq:q)(h:Hid q→p:=by 
 intro kq;have au:∀ (a b:ByteArray),a.data.toList=b.data.toList→a=b:=fun a b e=>by cases a;cases b;simp at e;rw[e]
 revert au;exact kq.o):p:=h kq
theorem E4(kq:q)(h:Hid q→p:=by intro kq;refine aL ?_;refine jS 9 rfl (by kernel_rfl) (fun au az=>?_);revert au az;exact kq.o):p:=h kq
theorem OV(kq:q)(h:Hid q→p:=by intro kq;have au:((c.toNat:Int) == 43)=false:=jy (by omega);have az:((c.toNat:Int) == 45)=false:=jy (by omega);revert au az;exact kq.o):p:=h kq
theorem aiI(h:p:=by rw[uw hc]at jz;have au:=Qh (show T=k from jz);rw[hc]at cd;clear jz hc;go_wp2_with fail;refine aI (cd _) ?_;rintro e w1 ⟨rfl,rfl⟩;clear cd;go_wp2_with fail;go_ret;exact⟨by rw[au.o];rfl,rfl⟩):p:=h
theorem wU(h:p:=by intro au;simp only at au;omega):p:=h
theorem Ut(h:p:=by exact⟨(T.drop j).length,(fun ts e=>by cases e;exact⟨af,by rw[List.length_drop];omega⟩),gu⟩):p:=h
theorem OY(a0:A0)(kq:q)(h:Hid A0→Hid q→p:=by intro aP kq;refine dF aP.o ?_;intro au az aO;have aV:=Qh (HO.o.trans az);have bM:=Qh aO;clear az aO;revert au aV bM;exact kq.o):p:=h a0 kq
theorem OZ(a0:A0)(kq:q)(h:Hid A0→Hid q→p:=by intro aP kq;refine aQ aP.o ?_;intro au az;replace HC:=Qh (bF HC.o az);replace HB:=Qh (HB.o.trans (az.mono (Nat.le_trans hsz HB.o.size)));clear az;revert HB;revert HC;revert au;exact kq.o):p:=h a0 kq
theorem O0(h:p:=by 
 go_wp2_with fail;go_ret2
 exact⟨by rw[HN.o]<;>rfl,Below.refl _ _⟩):p:=h
theorem O1(h:p:=by rw[iterPos_of (HX.o.store 1 (.int .i64 (C+1)) rfl).it,HM.o];omega):p:=h
theorem O2(h:p:=by subst e;obtain⟨i,hi,rfl,-⟩:=iF.o;rw[List.length_drop];omega):p:=h
theorem wV(a0:A0)(kq:q)(h:Hid A0→Hid q→p:=by intro aP kq;obtain⟨au,az⟩:=aP.o;have aO:=az.cell 2 (.int .i64 0) rfl;revert au az aO;exact kq.o):p:=h a0 kq
theorem Uu(h:p:=by have:(xs.length+1)*1≤(xs.length+1)*i.bytes:=Nat.mul_le_mul_left _ oh;unfold maxLen;omega):p:=h
theorem Lg(a0:A0)(kq:q)(h:Hid A0→Hid q→p:=by intro aP kq;refine aQ aP.o ?_;intro au az;have aO:=Qh (HO.o.trans (aA.of_below kr az));have aV:=Qh (dY.o.keep az);revert au az aO aV;exact kq.o):p:=h a0 kq
theorem pO(a0:A0)(kq:q)(h:Hid A0→Hid q→p:=by intro aP kq;refine aI aP.o ?_;refine aiE ?_;intro au az aO;revert au az aO;exact kq.o):p:=h a0 kq
theorem CX(kq:q)(h:Hid q→p:=by intro kq;refine wp_loop_rounds 1 ?_;rw[rounds_succ];exact kq.o):p:=h kq
theorem abu(h:p:=by refine⟨hnew.cL,by rw[← hv];exact hnew.CY hlt,Nat.le_trans hHeld.2.2.1 (by simp[World.setCell]),?_,.inr hnew⟩;have:=hnew.own k hlt;rw[hv]at this;exact this.free):p:=h
theorem aup(kq:q)(h:Hid q→p:=by intro kq;refine uk ?_;intro au;have az:=aH ir.o au.below af;have aO:=CZ.o.keep au.below af;have aV:=Qh az;have bM:=Qh aO;revert au az aO aV bM;exact kq.o):p:=h kq
theorem Uv(h:p:=by rw[HV.o]at dp ⊢;rw[(wW s9 kV _).1]at dp;rw[(wW s9 kV _).2 dp];rw[ht]):p:=h
theorem Uw(kq:q)(h:Hid q→p:=by intro kq;unfold Instr.typeAssert;simp only[Sem.run_bind,run_underlying hu,Result.andThen];exact kq.o):p:=h kq
theorem H5(kq:q)(h:Hid q→p:=by intro kq;refine aL ?_;refine aa0 (by kernel_rfl) ?_ _;exact kq.o):p:=h kq
theorem abv(h:p:=by go_wp2_with fail;exact bodyPost_ret (v:=.tuple #[.agg #[.int .i64 X,.int .i64 Y],.int .i64 kk]) (by simp[results,results180,go_sem,z0,z1]) rfl ⟨by rw[HV.o],vA.o⟩):p:=h
theorem abw(kq:q)(h:Hid q→p:=by intro kq;have au:(w1.alloc (.cells L 129)).cell? ⟨w1.heap.size,0,none⟩=some (.int .i64 t.kind):=b5.cell 0 _ (by rw[HE.o];rfl);have az:(w1.alloc (.cells L 129)).cell? ⟨w1.heap.size,1,none⟩=some (.string ⟨t.text.toArray⟩):=b5.cell 1 _ (by rw[HE.o];rfl);revert au az;exact kq.o):p:=h kq
theorem Ux(a0:A0)(kq:q)(h:Hid A0→Hid q→p:=by 
 intro aP kq;obtain⟨au,az,aO,aV,bM⟩:=aP.o;rw[← aV,← aO]at AZ;have cZ:=Qh AZ;have dy:=Qh (fun (h:R.2.isOk)=>abx (by rw[bM]at h;exact h));clear AZ;rw[← aV]at cc;try rw[← aO]at cc
 have eK:=Qh bM;clear bM aO aV;revert eK;revert cc;revert dy;revert cZ;revert az;revert au;exact kq.o):p:=h a0 kq
theorem Uy(a0:A0)(kq:q)(h:Hid A0→Hid q→p:=by intro aP kq;have au:=aP;have az:=Qh (show Below w.heap.size w w1 from aH bE.o hb1 (by omega));have aO:=Qh (show w.heap.size+1≤w1.heap.size by have:=hb1.size;omega);revert au az aO;exact kq.o):p:=h a0 kq
theorem aby(kq:q)(h:Hid q→p:=by intro kq;refine wp_region_held_drew (S:=(fun (w':World)=>w'.cell? ⟨A,0,none⟩=some (.bool neg)∧Below w.heap.size w w'∧∃ x y,ai w' w.heap.size #[x,y])) (by kernel_rfl) ⟨x0,HB.o.drew,_,_,TR.o.keep (Below.refl _ _).drew af⟩ (fun au=>?_);revert au;exact kq.o):p:=h kq
theorem Uz(kq:q)(h:Hid q→p:=by intro kq;refine wX 7 (fun (w':World)=>w'.cell? ⟨ks,18,none⟩=some (.slice av l.length cv)) (by kernel_rfl) c18 (fun au=>?_);revert au;exact kq.o):p:=h kq
theorem abz(kq:q)(h:Hid q→p:=by 
 intro kq;have au:∀ v,(W3.setCell ⟨km,2,none⟩ v).cell? ⟨km,3,none⟩=some (.bool false):=fun v=>ai.cell ⟨_,bJ HC.o 2 v⟩ 3 _ rfl
 have az:∀ v,(W3.setCell ⟨km,2,none⟩ v).frozen? ⟨km,3,none⟩=false:=fun v=>ai.free ⟨_,bJ HC.o 2 v⟩ 3
 revert au az;exact kq.o):p:=h kq
theorem A5(a0:A0)(kq:q)(h:Hid A0→Hid q→p:=by intro aP kq;refine jH aP.o ?_;intro au az aO aV;obtain⟨bM,cZ⟩:=Lh (b:=0) aO;revert au az aO aV bM cZ;exact kq.o):p:=h a0 kq
theorem abA(kq:q)(h:Hid q→p:=by intro kq;refine wp_region_held_drew (S:=(fun (w':World)=>w'.cell? ⟨kr,2,none⟩=some (.int .i64 (a))∧w'.cell? ⟨kr,3,none⟩=some (.int .i64 (b))∧w'.cell? ⟨kr,4,none⟩=some (.int .i64 (c)))) (by kernel_rfl) ⟨f2,f3,f4⟩ (fun au=>?_);revert au;exact kq.o):p:=h kq
theorem auq(kq:q)(h:Hid q→p:=by 
 intro kq;have au:((r:Int) == 95)=false:=(by rw[beq_eq_false_iff_ne];omega)
 revert au;exact kq.o):p:=h kq
theorem abB(h:p:=by 
 have au:∀ w:World,(binOp .eql 54 .nilIface (.iface 100 (.int .i64 n))).run prog w=.ok (.bool false) w:=fun w=>by kernel_rfl
 go_enter func100,ntmps100
 exact Hx):p:=h
theorem O3(kq:q)(h:Hid q→p:=by intro kq;refine jd ?_;intro au HZ HC HO az;have aO:=ai.cell ⟨_,HC.o⟩ 4 (.string ⟨#[]⟩) rfl;have aV:=ai.free ⟨_,HC.o⟩ 4;revert au HZ HC HO az aO aV;exact kq.o):p:=h kq
theorem O5(h:p:=by 
 go_wp2_with fail;go_ret2
 exact⟨by rw[HN.o]<;>rfl,bE.o⟩):p:=h
theorem UA(h:p:=by obtain⟨v,rfl,ho⟩:=h;obtain⟨a,cap,rfl,hs⟩:=ho.shape;exact⟨a,cap,rfl,hs⟩):p:=h
theorem abC(kq:q)(h:Hid q→p:=by 
 intro kq;have au := @run_callFunc_extern prog 306 _ (Extern.ReflectliteType.method fun t => do Rtype.noPackHeld "Comparable" t; pure (.bool (← typeInfo t).comparable)) func306 (by kernel_rfl) (by kernel_rfl) (by kernel_rfl) (by kernel_rfl)
 revert au;exact kq.o):p:=h kq
theorem aur(h:p:=by exact⟨0,0,[],rfl,Nat.zero_le _,rfl,Nat.zero_le _,aG.nil _ _ _ _ _,rfl,(fun _ h=>absurd h List.not_mem_nil),by simp[dT,Nat.mod_one],Below.refl _ _⟩):p:=h
theorem abD(h:p:=by 
 rw[hr2]at hr;cases hr
 refine .inr ⟨⟨rfl,rfl,rfl,by simp,fun k hk _=>(Below.heap_alloc w.drew _ k hk)⟩,fun k hk=>?_⟩;simp[Value.ownBlock]at hk;omega):p:=h
theorem aus(h:p:=by 
 go_enter func167,ntmps167
 go_wp2_with fail;go_ret;exact⟨by rw[HT.o]<;>rfl,rfl⟩):p:=h
theorem UB(a0:A0)(h:Hid A0→p:=by intro aP;go_simp;refine aQ aP.o ?_;intro au az;have qR:=Qh (pP.o.trans az);clear az cn;dsimp only;exact K6):p:=h a0
theorem abE(a0:A0)(kq:q)(h:Hid A0→Hid q→p:=by intro aP kq;have au:Below W4.heap.size W4 (W4.alloc (.cells C6 63)):=(Below.refl _ _).alloc af _;have az:=aP.o;have aO:=Qh (ny.o.trans (aA.of_below kr au));have aV:=Qh (zl.o.keep au);refine fx (bF wY.o au) (bF pM.o au) (H6.o.keep (vB _) au) (vB _ _ _ _ _ wZ.o au) ?_;clear au;intro bM cZ dy eK;revert az aO aV bM cZ dy eK;exact kq.o):p:=h a0 kq
theorem UC(h:p:=by go_wp2_with fail;go_ret;exact⟨_,p,rfl,HNP.o,HE.o,by rw[HLP.o];exact Li,hb⟩):p:=h
theorem UD(h:p:=by 
 go_enter func259,ntmps259
 go_wp2_with fail;go_ret;exact⟨by rw[HT.o];rfl,rfl⟩):p:=h
theorem O6(h:p:=by 
 go_wp2_with fail;go_ret2
 exact⟨by rw[HN.o]<;>rfl,hb⟩):p:=h
theorem O7(h:p:=by go_wp2_with fail;go_ret;exact⟨by rw[HV.o];rfl,HB.o⟩):p:=h
theorem abF(h:p:=by exact⟨g2.os,g2.tape,g2.output,Nat.le_trans (by simp) g2.size,fun k hk hne=>(g2.block k (by simp;omega) hne).trans (Below.heap_alloc wr _ k hk)⟩):p:=h
theorem abG(h:p:=by 
 have:(if d.has then [aX.bG d.bG] else []).length≤1:=by cases d.has<;>simp
 simp only[List.length_append,List.length_cons,List.length_map];omega):p:=h
theorem abH(kq:q)(h:Hid q→p:=by 
 intro kq;have au:bA wr dr 1 (some ⟨g1,0,none⟩) 75 (dB.take i):=bA.pre (ys:=dB.drop i) (by rw[List.take_append_drop];exact hsw) (fun _=>rfl);have az:(dB.take i).length=i:=(by rw[List.length_take];exact Nat.min_eq_left hlt)
 revert au az;exact kq.o):p:=h kq
theorem O8(kq:q)(h:Hid q→p:=by intro kq;have au:Below w.heap.size w (w.alloc (.cells kB 129)):=(Below.refl _ _).alloc af _;revert au;exact kq.o):p:=h kq
theorem aut(kq:q)(h:Hid q→p:=by intro kq;rw[if_neg (by unfold qU;rw[hl];simpa using hc)]at hS;have au:((c3.toNat:Int) == 46)=false:=E5 (m:=46) (by decide) hc;have az:=Qh hS;revert az;revert au;revert hS;exact kq.o):p:=h kq
theorem auu(a0:A0)(a1:A1)(kq:q)(h:Hid A0→Hid A1→Hid q→p:=by 
 intro aP fT kq;have au:Below wr.heap.size wr (wr.alloc (.cells es.toArray 39)):=(Below.refl _ _).alloc af _;have az:=aP.o;have aO:=az.range;have aV:=fT.o;have bM:=aV.cell 7 _ rfl;have cZ:=iE _ _ _ _ iG au;have dy:=iE _ _ _ _ kW au;have eK:(wr.alloc (.cells es.toArray 39)).rangeAt bb (ob+i*8) ds:=fun j v hv=>dx (lX j v hv) au
 refine aY (aH bE.o au af) aV aO ?_;intro jF kx ll;revert au az aO aV bM cZ dy eK jF kx ll;exact kq.o):p:=h a0 a1 kq
theorem auv(a0:A0)(a1:A1)(kq:q)(h:Hid A0→Hid A1→Hid q→p:=by 
 intro aP fT kq;have au:Below wr.heap.size wr (wr.alloc (.cells es.toArray 43)):=(Below.refl _ _).alloc af _;have az:=aP.o;have aO:=az.range;have aV:=fT.o;have bM:=aV.cell 8 _ rfl;have cZ:=jP _ _ _ _ iG au;have dy:=jP _ _ _ _ kW au;have eK:(wr.alloc (.cells es.toArray 43)).rangeAt bb (ob+i*6) ds:=fun j v hv=>dx (lX j v hv) au
 refine aY (aH bE.o au af) aV aO ?_;intro jF kx ll;revert au az aO aV bM cZ dy eK jF kx ll;exact kq.o):p:=h a0 a1 kq
theorem UE(h:p:=by go_wp2_with fail;go_ret;exact⟨_,rfl,aG.nil _ _ _ _ _,Below.refl _ _⟩):p:=h
theorem auw(h:p:=by 
 go_enter func133,ntmps133
 exact Hp):p:=h
theorem auy(h:p:=by 
 go_enter func150,ntmps150
 exact Hp):p:=h
theorem abI(h:p:=by have:=ai.new (w3.alloc (.cells bf 33)) #[.int .i64 0,.int .i64 0] 24;rw[World.size_alloc]at this;exact this.A9 (by omega) D):p:=h
theorem abJ(h:p:=by exact⟨by rw[HJ.o];first|rfl|go_num,TX.o.set 1 _,TR.o.other (by show w.heap.size+1≠w.heap.size;omega) _,HB.o.setCell (by simp) _⟩):p:=h
theorem abK(kq:q)(h:Hid q→p:=by intro kq;refine wp_region_held_drew (S:=(fun (w':World)=>w'.cell? ⟨kv,0,none⟩=some (.int .i64 L)∧w'.cell? ⟨kv,1,none⟩=some (.int .i64 C))) (by kernel_rfl) ⟨O9.cell 0 _ rfl,O9.cell 1 _ rfl⟩ (fun au=>?_);revert au;exact kq.o):p:=h kq
theorem abL(a0:A0)(h:Hid A0→p:=by 
 intro aP;go_enter func147,ntmps147
 go_wp2
 refine wp_loop_rounds 2 ?_;rw[rounds_succ];go_wp2_with fail;refine qT aP.o ?_;clear cu;intro au HB;go_wp2_with fail;rw[rounds_succ];exact ui):p:=h a0
theorem Lk(kq:q)(h:Hid q→p:=by intro kq;unfold aG;rw[List.length_append,List.flatMap_append];exact kq.o):p:=h kq
theorem abM(h:p:=by rw[World.cell?_alloc_lt _ _ ⟨0,0,none⟩ (by first|(simp;done)|(simp;omega)),World.cell?_alloc_lt _ _ ⟨0,0,none⟩ hlt];exact hg):p:=h
theorem abN(kq:q)(h:Hid q→p:=by 
 intro kq;have au:∀ x,(w2.setCell ⟨kr,3,none⟩ x).cell? ⟨kr,4,none⟩=some (.int .i64 0):=fun x=>(hc.put 3 x).cell 4 _ rfl
 have az:∀ x,(w2.setCell ⟨kr,3,none⟩ x).frozen? ⟨kr,4,none⟩=false:=fun x=>(hc.put 3 x).free 4
 revert au az;exact kq.o):p:=h kq
theorem abO(kq:q)(h:Hid q→p:=by 
 intro kq;have au:L.length=4:=(by rw[hL];rfl)
 have az:L.toArray.all (·.oneCell')=true:=(by rw[hL];exact C5 _)
 have aO:(prog.info? 129).map (·.size)=some L.length:=(by rw[au];exact H7)
 have aV:L.toArray.size=4:=(by simpa using au)
 unfold eG;revert au az aO aV;exact kq.o):p:=h kq
theorem UF(h:p:=by 
 rename_i h
 split<;>exact⟨by simp,by simp,fun h=>by simp only;omega⟩):p:=h
theorem aiJ(kq:q)(h:Hid q→p:=by 
 intro kq;have au:¬ k < (⟨s.toArray⟩:ByteArray).size:=hlt;have az:∀ ty,(Instr.next (.pointer (some ⟨w.heap.size,0,none⟩)) true ty).run prog wr=_:=fun ty=>Lib.run_next_end_at wr w.heap.size ⟨s.toArray⟩ k ty hit au
 revert au az;exact kq.o):p:=h kq
theorem xe(h:p:=by exact⟨rfl,rfl,hb⟩):p:=h
theorem H8(h:p:=by exact⟨0,Nat.zero_le _,rfl,hb⟩):p:=h
theorem Pa(kq:q)(h:Hid q→p:=by intro kq;rintro au az aO aV bM -;have cZ:=hw.nH ho (by decide) bM;have dy:=aV.size;have eK:=Qh aO;have jF:=Qh aV;obtain⟨kx,ll,pK,-⟩:=aO.shape;revert au az aO aV bM cZ dy eK jF kx ll pK;exact kq.o):p:=h kq
theorem UG(a0:A0)(h:Hid A0→p:=by intro aP;go_wp2_with fail;refine dF aP.o ?_;intro au ho hq;clear cF;exact Ht (HO.o.trans ho) hq):p:=h a0
theorem abP(h:p:=by rw[iterPos_of (((HX.o.store 1 (.int .i64 (C+1)) rfl).store 0 (.int .i64 (L+1)) rfl).store 1 (.int .i64 1) rfl).it,HM.o];omega):p:=h
theorem abQ(a0:A0)(h:Hid A0→p:=by 
 intro aP;go_enter func171,ntmps171
 go_wp2_with fail;refine aI aP.o ?_;rintro aV au ⟨az,rfl,-,-,aO⟩;have bM:=Qh aO;clear aO c1;go_wp2_with fail;go_ret2
 exact⟨by rw[HV.o]<;>rfl,bM.o⟩):p:=h a0
theorem auz(kq:q)(h:Hid q→p:=by 
 intro kq;have au:jI (ay s).1 s=false:=(by unfold jI;rw[List.getElem?_eq_none (by omega),Bool.and_false])
 have az:¬ (1:Int) < s.length:=(by omega)
 rw[au,if_neg (by decide),if_neg vC,if_neg (by rw[cV];decide),if_neg (by rw[jT];decide)]at dM;revert dM;revert az;revert au;exact kq.o):p:=h kq
theorem abR(a0:A0)(h:Hid A0→p:=by intro aP;rw[hX,PR.ug,PR.ug]at hr;have dv:=Qh hr;clear hr hX;go_wp2_with fail;refine aQ aP.o ?_;intro au az;have qR:=Qh (jU.o.trans az);clear az cn;exact K6):p:=h a0
theorem abS(a0:A0)(h:Hid A0→p:=by intro aP;go_wp2_with fail;refine OY aP.o ?_;clear cW;intro au az aO;go_wp2_with fail;refine⟨rfl,.tuple #[],by simp[results,results55],rfl,az.o,?_⟩;rw[vD.o];exact aO.o):p:=h a0
theorem Pb(h:p:=by subst lY;exact hy.wpOp hi hT ⟨fun _=>hT,H⟩):p:=h
theorem abT(kq:q)(h:Hid q→p:=by 
 intro kq;have au:((i:Int)+1 == (s.length:Int))=false:=jy (by omega);have az:i+1 < s.length:=(by omega)
 have aO:(⟨s.toArray⟩:ByteArray)[i+1]'az=s[i+1]:=rfl;have aV:=Qh (List.drop_eq_getElem_cons az);have bM:((i:Int)+1).toNat=i+1:=(by omega)
 revert au az aO aV bM;exact kq.o):p:=h kq
theorem abU(kq:q)(h:Hid q→p:=by 
 intro kq;have au:(prog.info? 39).map (·.size)=some ds.length:=(by rw[fY];exact ql)
 revert au;exact kq.o):p:=h kq
theorem UH(h:p:=by exact⟨0,Nat.zero_le _,rfl,aZ.nil _ _ _ _ _,Below.refl _ _⟩):p:=h
theorem UI(kq:q)(h:Hid q→p:=by intro kq;refine bodyPost_ret (v:=.agg CC) (by simp[results,results54,Act.put,asAddr,hrun]) rfl ?_;exact kq.o):p:=h kq
theorem abV(h:p:=by rw[HV.o,jh.o]at dp ⊢;dsimp only at dp ⊢;rw[(wW s1 kX _).1]at dp;rw[(wW s1 kX _).2 dp];rw[ht]):p:=h
theorem abW(h:p:=by rw[HV.o,jh.o]at dp ⊢;dsimp only at dp ⊢;rw[(wW s1 lB _).1]at dp;rw[(wW s1 lB _).2 dp];rw[ht]):p:=h
theorem UJ(h:p:=by subst e;obtain⟨i,hi,rfl,-⟩:=HP.o;rw[List.length_drop];omega):p:=h
theorem E9(h:p:=by exact⟨by rw[dS.o],rfl⟩):p:=h
theorem auA(kq:q)(h:Hid q→p:=by intro kq;refine aiF ?_;intro au;have az:=fo au 24 _ underlying24 rfl (by kernel_rfl);revert au az;exact kq.o):p:=h kq
theorem Ll(a0:A0)(kq:q)(h:Hid A0→Hid q→p:=by 
 intro aP kq;obtain⟨au,az,aO,aV,bM⟩:=aP.o;rw[← aV]at cc;try rw[← aO]at cc
 replace HR:=Qh bM;clear bM aO aV;revert HR;revert cc;revert az;revert au;exact kq.o):p:=h a0 kq
theorem abX(h:p:=by go_wp2_with fail;go_ret;exact⟨rfl,aM.o⟩):p:=h
theorem Pc(h:p:=by show(if l=[] then [] else _)=_;rw[if_neg h0]):p:=h
theorem UK(kq:q)(h:Hid q→p:=by 
 intro kq;have au:n*i.size+news.length≤cur.size:=(by rw[hl,hcs,← Nat.add_mul];exact Nat.mul_le_mul_right _ hroom)
 revert au;exact kq.o):p:=h kq
theorem UL(h:p:=by intro au az aO aV;go_wp2_with fail;go_ret;exact⟨_,rfl,aO,aV⟩):p:=h
theorem abY(kq:q)(h:Hid q→p:=by 
 intro kq;have au:∀ ty,(Instr.next (.pointer (some ⟨w.heap.size+1,0,none⟩)) true ty).run prog wr=_:=fun ty=>Lib.run_next_any_at wr (w.heap.size+1) ⟨s.toArray⟩ k ty hit fR
 rw[Ba]at au;revert au;exact kq.o):p:=h kq
theorem xf(kq:q)(h:Hid q→p:=by 
 intro kq;obtain⟨au,az⟩:∃ x,x=wc:=⟨_,rfl⟩
 revert au az;exact kq.o):p:=h kq
theorem Lm(kq:q)(h:Hid q→p:=by intro kq;refine aL ?_;refine jS 7 rfl (by kernel_rfl) (fun au az=>?_);revert au az;exact kq.o):p:=h kq
theorem Lo(kq:q)(h:Hid q→p:=by intro kq;refine aL ?_;refine jS 3 rfl (by kernel_rfl) (fun au az=>?_);revert au az;exact kq.o):p:=h kq
theorem UM(kq:q)(h:Hid q→p:=by 
 intro kq;have au:CC.size=19:=(by rw[fB];rfl)
 have az:CC.all (·.oneCell')=true:=(by rw[fB];exact dI.cells_one _ _ _ _)
 revert au az;exact kq.o):p:=h kq
theorem Pd(h:p:=by simp[World.setCell,Array.getElem?_modify,h]):p:=h
theorem Pe(h:p:=by first|exact hHeld|exact aH hHeld bO af):p:=h
theorem abZ(h:p:=by refine Us ?_;intro au;apply au;rw[Go.Lib.extract_data];show(L.drop i).take (i+n - i)=_;rw[Nat.add_sub_cancel_left]):p:=h
theorem ab0(h:p:=by exact⟨rfl,TR.o.other (by show w.heap.size+1≠w.heap.size;omega) _,TX.o.set 0 _,bE.o.setCell (by simp) _⟩):p:=h
theorem UN(kq:q)(h:Hid q→p:=by 
 intro kq;have au:CC.size=8:=(by rw[fB];rfl)
 have az:CC.all (·.oneCell')=true:=(by rw[fB];exact bj.cells_one _ _ _ _)
 revert au az;exact kq.o):p:=h kq
theorem auB(h:p:=by exact⟨0,Nat.zero_le _,rfl,aM.o,sR.o⟩):p:=h
theorem UO(h:p:=by go_wp2_with fail;go_ret;rw[dv.o];exact⟨rfl,HO.o,HP.o⟩):p:=h
theorem Lp(a0:A0)(kq:q)(h:Hid A0→Hid q→p:=by intro aP kq;obtain⟨au,az,aO,aV⟩:=aP.o;obtain⟨bM,cZ⟩:=aV.cells;have dy:=cZ.cell 2 (.int .i64 no) rfl;have eK:=bN au;revert au az aO aV bM cZ dy eK;exact kq.o):p:=h a0 kq
theorem UP(h:p:=by go_wp2_with fail;go_ret;exact⟨by rw[HX.o]<;>rfl,bX.o⟩):p:=h
theorem UQ(h:p:=by rw[HV.o];rw[(wW s9 kV _).1];exact UR.o.row dG CC):p:=h
theorem US(kq:q)(h:Hid q→p:=by intro kq;rw[← Fa]at hv cM;have au:=Qh (show R=s9.run kV (fun ts=>.ok ⟨t.line,t.ak,ib.1,ib.2,nm,l⟩ ts)from hv);clear hv;revert au;revert cM;exact kq.o):p:=h kq
theorem ab1(a0:A0)(h:Hid A0→p:=by intro aP;rintro e w1 ⟨rfl,rfl⟩;go_wp2_with fail;refine aI aP.o ?_;rintro e w1 ⟨rfl,rfl⟩;go_wp2_with fail;go_ret;exact⟨by rw[HN.o]<;>rfl,HB.o⟩):p:=h a0
theorem ux(h:p:=by have:=Hg0.o;omega):p:=h
theorem uy(h:p:=by exact⟨rfl,hb⟩):p:=h
theorem UT(kq:q)(h:Hid q→p:=by intro kq;have au:∀ j u,xs[j]? = some u→w.cell? ((⟨g,0,none⟩:Addr).add j)=some u:=hown.cells (g:=g) rfl;revert au;exact kq.o):p:=h kq
theorem ab2(a0:A0)(a1:A1)(h:Hid A0→Hid A1→p:=by intro aP fT;go_wp2_with fail;refine aI aP.o ?_;rintro e w1 ⟨rfl,rfl⟩;go_wp2_with fail;refine aI fT.o ?_;rintro e w1 ⟨rfl,rfl⟩;go_wp2_with fail;go_ret;exact⟨by rw[HZ.o];rfl,rfl⟩):p:=h a0 a1
theorem ab3(a0:A0)(h:Hid A0→p:=by intro aP;go_wp2_with fail;refine OY aP.o ?_;clear cW;intro au az aO;go_wp2_with fail;refine⟨rfl,.tuple #[],by simp[results,results55],rfl,az.o,aO.o⟩):p:=h a0
theorem H9(h:p:=by refine nD ?_;rw[ht,hn];rfl):p:=h
theorem UU(h:p:=by go_wp2_with fail;go_ret;exact⟨rfl,hb.a.cL,hb.a.qV⟩):p:=h
theorem qW(a0:A0)(kq:q)(h:Hid A0→Hid q→p:=by 
 intro aP kq;have au:=aP.o
 rw[List.length_drop]at au;revert au;exact kq.o):p:=h a0 kq
theorem UW(kq:q)(h:Hid q→p:=by intro kq;simp only[List.take_succ_cons,List.take_zero,List.drop_succ_cons,List.drop_zero];exact kq.o):p:=h kq
theorem ab4(h:p:=by go_wp2_with fail;go_ret;exact⟨by rw[kY.o];rfl,rfl⟩):p:=h
theorem ab5(h:p:=by 
 rw[hr2]at hr;cases hr
 exact .inr ⟨rfl,rfl,rfl,by simp,fun k hk _=>(Below.heap_alloc w.drew _ k hk)⟩):p:=h
theorem ab6(h:p:=by rw[Bool.eq_iff_iff,beq_iff_eq,beq_iff_eq];exact⟨fun h=>UInt8.toNat_inj.1 h,fun h=>by rw[h];rfl⟩):p:=h
theorem UX(a0:A0)(h:Hid A0→p:=by intro aP;obtain⟨au,az,aO⟩:=aP.o;exact⟨au,az,aO.mono fun x r hr=>hm x _ hr⟩):p:=h a0
theorem ab7(h:p:=by exact(bP.alloc (by omega) _).grown g2 (by simp;omega) (fun k hk=>(World.ownsRow.lt hown k hk).1)):p:=h
theorem Ia(kq:q)(h:Hid q→p:=by intro kq;rw[if_pos (by simp[Region.wanted,hgd])];exact kq.o):p:=h kq
theorem ab8(a0:A0)(kq:q)(h:Hid A0→Hid q→p:=by intro aP kq;have au:=aP;have az:=Qh (eJ sS.o (by omega) ho);have aO:=Qh (eJ zm.o (by omega) ho);have aV:=Qh (ab9.o.dn (by decide) (vw _ (by decide)) aca.o ho.size (fun b hb hne=>ho.block b hb (by simpa using hne)));revert au az aO aV;exact kq.o):p:=h a0 kq
theorem Fb(h:p:=by intro au;dsimp only;omega):p:=h
theorem Pg(a0:A0)(kq:q)(h:Hid A0→Hid q→p:=by 
 intro aP kq;refine aQ aP.o ?_;intro au az;have aO:=HG.o.keep az;have aV:ai au w.heap.size bf:=⟨_,aO.res⟩
 revert au az aO aV;exact kq.o):p:=h a0 kq
theorem Lr(h:p:=by rw[iterPos_of om.o,HM.o];omega):p:=h
theorem Bb(h:p:=by split at h<;>cases h):p:=h
theorem acb(h:p:=by 
 rw[hf]at h2;obtain⟨au,az,aO,aV⟩:=h2.shape;injection aO with e1 e2 e3
 rw[e1,e3];exact aV.C7 fun _ _=>aiK):p:=h
theorem Ls(h:p:=by exact⟨v,h1,h2.fU hb⟩):p:=h
theorem acd(a0:A0)(h:Hid A0→p:=by intro aP;go_wp2_with fail;refine aQ aP.o ?_;intro au hb;clear cF;exact Hu (qo.Ld (ks:=ks) (aA.of_below kp (aH bT.o hb af)))):p:=h a0
theorem ace(kq:q)(h:Hid q→p:=by intro kq;unfold Oper.wp execOp;simp only[ho,hx,Instr.loadAt,Instr.sureAddr,Sem.run_bind,Sem.run_pure,Result.andThen_ok,fo hb ty d hu hd hi];exact kq.o):p:=h kq
theorem Ph(h:p:=by intro au;rw[au]at h1;simp at h1;omega):p:=h
theorem acf(h:p:=by simp only[List.map_cons,List.sum_cons,List.length_cons,ih,hf];rw[Nat.mul_succ,Nat.add_comm]):p:=h
theorem Pj(kq:q)(h:Hid q→p:=by intro kq;have au:w.heap.size+1+1+1≤w1.heap.size:=Nat.le_trans (by simp) gD.o;revert au;exact kq.o):p:=h kq
theorem auC(a0:A0)(h:Hid A0→p:=by intro aP;go_wp2_with fail;refine aI aP.o ?_;rintro e w3 ⟨rfl,rfl⟩;exact aiH):p:=h a0
theorem auD(h:p:=by obtain⟨i,hi,rfl,hr⟩:=h;exact⟨i,0,0,0,_,Nat.le_of_lt hi,hr,pQ hi,by rw[hB];rfl⟩):p:=h
theorem Pk(h:p:=by simp[Array.getElem?_eq_none h']at h1):p:=h
theorem auE(h:p:=by rw[hl]at cl;rw[if_pos (by unfold qU;rw[hl];rfl)]at hS;have HS:=Qh hS;clear hS hl;exact aa5 (cl _)):p:=h
theorem UY(kq:q)(h:Hid q→p:=by intro kq;refine uk ?_;intro au;have az:=Qh (lZ.o.trans (aA.of_below kr au.below));have aO:=Qh (C8.o.keep au.below);revert au az aO;exact kq.o):p:=h kq
theorem UZ(h:p:=by exact⟨0,Nat.zero_le _,rfl,rfl,Below.refl _ _⟩):p:=h
theorem aiL(kq:q)(h:Hid q→p:=by 
 intro kq;have au:∀ ty,(Instr.next (.pointer (some ⟨w.heap.size,0,none⟩)) true ty).run prog wr=_:=fun ty=>Lib.run_next_any_at wr w.heap.size ⟨s.toArray⟩ k ty hit fR
 revert au;exact kq.o):p:=h kq
theorem auF(a0:A0)(h:Hid A0→p:=by 
 intro aP;rw[if_pos (by unfold qU;rw[hc];rfl)]at hS;have au:((c3.toNat:Int) == 46)=true:=(by rw[hc];rfl)
 have HS:=Qh hS;clear hS hc;exact aa5 aP.o):p:=h a0
theorem acg(h:p:=by have:=Int.tmod_lt_of_pos (-n) (show(0:Int) < m by omega);rw[Int.neg_tmod]at this;omega):p:=h
theorem ach(h:p:=by go_wp2_with fail;go_ret;exact⟨rfl,Go.below_drewN ((Below.refl _ _).alloc af _) _⟩):p:=h
theorem Pl(h:p:=by intro au;exact absurd ⟨rfl,rfl⟩ au):p:=h
theorem aci(h:p:=by rw[acj s 0 (by decide),show(18446744073709551615:Nat)=2 ^ 64 - 1 by decide,hp];rfl):p:=h
theorem ack(h:p:=by exact pL (hb5.setCell (by show w.heap.size≤w.heap.size;omega) _) (by omega) _):p:=h
theorem auG(h:p:=by have:=UInt8.toNat_lt s[1];unfold IntKind.wrap;simp[IntKind.bits,IntKind.signed];omega):p:=h
theorem Pm(h:p:=by 
 intro au;left
 exact⟨rfl,by omega⟩):p:=h
theorem acm(a0:A0)(kq:q)(h:Hid A0→Hid q→p:=by intro aP kq;replace HN:=aP;replace HM:=Qh (HM.o.dn (by decide) (lu _ (by decide) (by decide)) HC.o (by simp[World.setCell]) (fun b _ hne=>Below.heap_setCell _ ⟨ks,7,none⟩ (.slice a6 n6 c6) b hne));revert HM;revert HN;exact kq.o):p:=h a0 kq
theorem auH(kq:q)(h:Hid q→p:=by 
 intro kq;obtain⟨au,az⟩:∃ k,k=w.heap.size:=⟨_,rfl⟩
 rw[← az]at hsz c0 c1 ⊢;have aO:=Qh az;clear az;revert aO;revert c1;revert c0;revert hsz;revert au;exact kq.o):p:=h kq
theorem lC(a0:A0)(a1:A1)(a2:A2)(a3:A3)(kq:q)(h:Hid A0→Hid A1→Hid A2→Hid A3→Hid q→p:=by intro aP fT nx uj kq;refine aY aP.o fT.o nx.o ?_;intro au az aO;have aV:=uj;revert au az aO aV;exact kq.o):p:=h a0 a1 a2 a3 kq
theorem acn(h:p:=by exact⟨b,o,rfl,hb,hc 0 (by decide),by rw[Nat.add_assoc];exact hc 1 (by decide)⟩):p:=h
theorem U0(kq:q)(h:Hid q→p:=by intro kq;simp only[List.map_append,List.map_cons,List.sum_append,List.sum_cons];exact kq.o):p:=h kq
theorem auI(a0:A0)(kq:q)(h:Hid A0→Hid q→p:=by intro aP kq;refine aQ aP.o ?_;intro au az;have aO:=Qh (az.alloc az.size (.cells L 129));have aV:=(HR.o.keep az).cells;obtain⟨bM,cZ⟩:=aV;have dy:Below au.heap.size au (au.alloc (.cells L 129)):=(Below.refl _ _).alloc af _;have eK:=(cZ.keep dy af).cell 2 (.int .i64 no) rfl;obtain⟨jF,kx⟩:=Pn.o au;revert au az aO aV bM cZ dy eK jF kx;exact kq.o):p:=h a0 kq
theorem Ib(h:p:=by 
 go_wp2
 go_ret;exact lz):p:=h
theorem aco(kq:q)(h:Hid q→p:=by 
 intro kq;obtain⟨au,az⟩:∃ C,C=(⟨t0.line,t0.ak,nm,rb.1,rb.2,sa,sz,M1,M2,sc.1,sc.2,dO.1,dO.2,mi.1,mi.2,ma.1,ma.2,u.text⟩:dI).cells (.slice av l.length cv):=⟨_,rfl⟩
 revert au az;exact kq.o):p:=h kq
theorem Po(h:p:=by exact⟨0,0,fun h=>absurd h h0⟩):p:=h
theorem U1(a0:A0)(h:Hid A0→p:=by intro aP;have au:=aP;clear hb;go_wp2_with fail;go_ret;exact⟨rfl,au.o⟩):p:=h a0
theorem U2(h:p:=by rw[HV.o];exact⟨rfl,lZ.o.set 1 _,Pq.o⟩):p:=h
theorem Pr(h:p:=by 
 right
 right
 right
 right
 exact lz):p:=h
theorem U3(kq:q)(h:Hid q→p:=by 
 intro kq;obtain⟨au,az⟩:∃ n:Nat→Nat,∀ j,n j=(xs j).length:=⟨fun j=>(xs j).length,fun _=>rfl⟩
 revert au az;exact kq.o):p:=h kq
theorem C9(kq:q)(h:Hid q→p:=by intro kq;rw[beq_eq_false_iff_ne];exact kq.o):p:=h kq
theorem acp(h:p:=by 
 cases e
 have:=h 0 (by decide);rwa [Nat.mul_one,Nat.zero_add,Nat.add_zero]at this):p:=h
theorem acr(h:p:=by refine C9 ?_;intro au;rw[au]at hl3;simp at hl3):p:=h
theorem ae {p:Prop} (h:p:=by omega):p:=h
theorem ah {p:Prop} (h:p:=by decide):p:=h
theorem aj {p:Prop} (h:p:=by kernel_rfl):p:=h
theorem ft {p:Prop} (h:p:=by rw[beq_eq_false_iff_ne];omega):p:=h
theorem aB {p:Prop} (h:p:=by simp):p:=h
theorem sT {p:Prop} (h:p:=by simp only[List.length_append,List.length_cons,List.length_nil];omega):p:=h
theorem dV {p:Prop} (h:p:=by first|rfl|go_num):p:=h
theorem cO {p:Prop} (h:p:=by simp;omega):p:=h
theorem bL {p:Prop} (h:p:=by go_num):p:=h
theorem xg {p:Prop} (h:p:=by simp[results,results81,go_sem,r0,r1,r2,r3,gI,qj]):p:=h
theorem zn {p:Prop} (h:p:=by simp[results,results81,go_sem,r0,r1,r2,r3,iq,qj]):p:=h
theorem Ps {p:Prop} (h:p:=by first|(simp only[aS.add];omega)|(simp only[aS.add,List.length_append,List.length_cons,List.length_nil];omega)):p:=h
theorem Da {p:Prop} (h:p:=by show _=[_,_,_,_,Value.bool (gF R 1)];rw[Pt.o];rfl):p:=h
theorem Bc {p:Prop} (h:p:=by simp[results,results104,go_sem,r0,r1,r2,r3]):p:=h
theorem xh {p:Prop} (h:p:=by rw[List.length_append];simp;omega):p:=h
theorem pR {p:Prop} (h:p:=by simp[World.setCell]):p:=h
theorem Pv {p:Prop} (h:p:=by intro h;have:=congrArg List.length h;rw[List.length_drop]at this;simp at this;omega):p:=h
theorem fV {p:Prop} (h:p:=by rw[HN.o]):p:=h
theorem vF {p:Prop} (h:p:=by rw[List.length_tail];omega):p:=h
theorem mO {p:Prop} (h:p:=by rw[HB.o]<;>rfl):p:=h
theorem Db {p:Prop} (h:p:=by show wo.heap.size+1≠wo.heap.size;omega):p:=h
theorem qX {p:Prop} (h:p:=by simp[World.setRow]):p:=h
theorem xi {p:Prop} (h:p:=by simp[Fc,Value.oneCell']):p:=h
theorem vG {p:Prop} (h:p:=by rw[oW];exact rM):p:=h
theorem uz {p:Prop} (h:p:=by simp[Value.oneCell']):p:=h
theorem Ic {p:Prop} (h:p:=by have:=sU.o ts e;exact⟨by omega,by omega⟩):p:=h
theorem Px {p:Prop} (h:p:=by rw[List.length_append,List.length_cons,List.length_nil];omega):p:=h
theorem vH {p:Prop} (h:p:=by rw[bne_iff_ne];omega):p:=h
theorem Py {p:Prop} (h:p:=by rintro _ ⟨z,rfl⟩;exact aW.range (by simpa using sQ.o) z):p:=h
theorem Pz {p:Prop} (h:p:=by unfold IntKind.wrap;simp[IntKind.bits,IntKind.signed];omega):p:=h
theorem Lt {p:Prop} (h:p:=by simp[results,results203,go_sem,r0,r1,r2,r3,r4]):p:=h
theorem Bd {p:Prop} (h:p:=by simp[dr,Value.oneCell']):p:=h
theorem qp {p:Prop} (h:p:=by rw[hk];decide):p:=h
theorem lD {p:Prop} (h:p:=by rw[e];rfl):p:=h
theorem Ie {p:Prop} (h:p:=by show w.heap.size+1≠w.heap.size;omega):p:=h
theorem PC {p:Prop} (h:p:=by have:=aiM dP;rwa [Array.length_toList]at this):p:=h
theorem PD {p:Prop} (h:p:=by unfold IntKind.wrap;simp[IntKind.bits,IntKind.signed]):p:=h
theorem rO {p:Prop} (h:p:=by rw[HS.o]<;>rfl):p:=h
theorem vI {p:Prop} (h:p:=by show 1 < 3;decide):p:=h
theorem vJ {p:Prop} (h:p:=by show 2 < 3;decide):p:=h
theorem ot {p:Prop} (h:p:=by assumption):p:=h
theorem ow {p:Prop} (h:p:=by rw[hc];rfl):p:=h
theorem Be {p:Prop} (h:p:=by rw[oW];exact uA):p:=h
theorem Bf {p:Prop} (h:p:=by rw[oW];exact ql):p:=h
theorem PE {p:Prop} (h:p:=by rcases hv j hj with h1|h1;exact h.far j h1;omega):p:=h
theorem PG {p:Prop} (h:p:=by rw[← Int.natCast_ediv];exact wrapN _ (by omega)):p:=h
theorem PH {p:Prop} (h:p:=by rw[Bool.eq_iff_iff,beq_iff_eq,beq_iff_eq];omega):p:=h
theorem U4 {p:Prop} (h:p:=by simp only[if_true];rw[List.length_set,hp.len k hlt];exact jV):p:=h
theorem U5 {p:Prop} (h:p:=by rw[List.length_append,List.length_map,List.length_take];omega):p:=h
theorem Fe {p:Prop} (h:p:=by rw[List.length_take];omega):p:=h
theorem Lu {p:Prop} (h:p:=by have:=hs1.o;show w.heap.size≤A;omega):p:=h
theorem Bg {p:Prop} (h:p:=by intro x hx;cases hx):p:=h
theorem PI {p:Prop} (h:p:=by rintro _ ⟨z,rfl⟩;exact aW.range vp.o z):p:=h
theorem PJ {p:Prop} (h:p:=by rintro _ ⟨z,rfl⟩;exact aW.range lX z):p:=h
theorem PK {p:Prop} (h:p:=by rintro _ ⟨z,rfl⟩;exact aW.range hrg z):p:=h
theorem Dc {p:Prop} (h:p:=by rw[beq_iff_eq];omega):p:=h
theorem U6 {p:Prop} (h:p:=by simp[results,results136,go_sem,r0,r1,r2,r3,gI,qj]):p:=h
theorem Ig {p:Prop} (h:p:=by rw[hp.len k hlt];exact jV):p:=h
theorem vK {p:Prop} (h:p:=by simpa using h):p:=h
theorem PM {p:Prop} (h:p:=by have:=HST.o;rw[je.o]at this;exact this):p:=h
theorem Ih {p:Prop} (h:p:=by rw[List.length_drop];omega):p:=h
theorem PN {p:Prop} (h:p:=by show wo.heap.size+1≠w1.heap.size;omega):p:=h
theorem PO {p:Prop} (h:p:=by show wo.heap.size≤wo.heap.size+1;omega):p:=h
theorem U7 {p:Prop} (h:p:=by have hb:=hbytes;simp only[Nat.zero_add]at hb;omega):p:=h
theorem PQ {p:Prop} (h:p:=by unfold dJ;rw[if_pos ⟨h,by decide⟩]):p:=h
theorem Ff {p:Prop} (h:p:=by rw[uB];exact Fg):p:=h
theorem Fh {p:Prop} (h:p:=by rw[uB];exact jw):p:=h
theorem Ii {p:Prop} (h:p:=by simp[qq,Value.oneCell']):p:=h
theorem PS {p:Prop} (h:p:=by rw[← Array.getElem?_toList];exact ho):p:=h
theorem PT {p:Prop} (h:p:=by unfold foundAt;rw[if_pos (by omega)]):p:=h
theorem acs {p:Prop} (h:p:=by rw[← HN.o];unfold Bh;rw[if_neg (by show ¬ (pt=1∨pt=3∨pt=6);omega)];rfl):p:=h
theorem PU {p:Prop} (h:p:=by simp[results,results44,go_sem,r0,r1]):p:=h
theorem zo {p:Prop} (h:p:=by simpa using hk):p:=h
theorem Lv {p:Prop} (h:p:=by rw[List.length_append];omega):p:=h
theorem Dd {p:Prop} (h:p:=by first|rfl|trivial):p:=h
theorem Bi {p:Prop} (h:p:=by simpa using hlt):p:=h
theorem Ij {p:Prop} (h:p:=by rw[hsz];exact aiN):p:=h
theorem PV {p:Prop} (h:p:=by rw[hd];exact List.cons_ne_nil _ _):p:=h
theorem De {p:Prop} (h:p:=by dsimp only;omega):p:=h
theorem Ik {p:Prop} (h:p:=by rw[q0];exact ql):p:=h
theorem Il {p:Prop} (h:p:=by rw[q0];exact rM):p:=h
theorem Im {p:Prop} (h:p:=by rw[q0];exact U8):p:=h
theorem U9 {p:Prop} (h:p:=by simp[results,results222,go_sem,r0,r1,dE]):p:=h
theorem Va {p:Prop} (h:p:=by simp[results,results193,go_sem,r0,r1,dE]):p:=h
theorem Bj {p:Prop} (h:p:=by rw[HV.o]<;>rfl):p:=h
theorem Io {p:Prop} (h:p:=by have:=hf ts rfl;omega):p:=h
theorem xj {p:Prop} (h:p:=by rw[oW];rfl):p:=h
theorem Ip {p:Prop} (h:p:=by rw[q0];exact jw):p:=h
theorem Vb {p:Prop} (h:p:=by have:=Sl.nil hs rfl;have:=Sl.le hs;omega):p:=h
theorem zq {p:Prop} (h:p:=by rw[HN.o];rfl):p:=h
theorem PW {p:Prop} (h:p:=by rw[← hsz];exact ai.new W _ _):p:=h
theorem Lx {p:Prop} (h:p:=by rw[aiO];simp;omega):p:=h
theorem PX {p:Prop} (h:p:=by unfold l9 at bm ⊢;omega):p:=h
theorem Vc {p:Prop} (h:p:=by simp[results,results208,go_sem,r0,r1]):p:=h
theorem Vd {p:Prop} (h:p:=by simp[results,results180,go_sem,r0,r1]):p:=h
theorem Lz {p:Prop} (h:p:=by rw[hsz];exact H7):p:=h
theorem Ve {p:Prop} (h:p:=by rw[← Array.getElem?_toList];exact hi):p:=h
theorem PY {p:Prop} (h:p:=by rw[Bool.eq_iff_iff,HI.o,hv]):p:=h
theorem LC {p:Prop} (h:p:=by have:=hr' k hlt;omega):p:=h
theorem zr {p:Prop} (h:p:=by rw[q0];rfl):p:=h
theorem PZ {p:Prop} (h:p:=by simp[fS,Value.oneCell']):p:=h
theorem Bk {p:Prop} (h:p:=by rw[hsz];rfl):p:=h
theorem Bl {p:Prop} (h:p:=by rw[iu];rfl):p:=h
theorem sW {p:Prop} (h:p:=by cases e):p:=h
theorem P0 {p:Prop} (h:p:=by rw[World.size_alloc];rfl):p:=h
theorem P5 {p:Prop} (h:p:=by simp[xk,Value.oneCell']):p:=h
theorem P6 {p:Prop} (h:p:=by simp only[aS.add];omega):p:=h
theorem P7 {p:Prop} (h:p:=by simp[Df,Value.oneCell']):p:=h
theorem P8 {p:Prop} (h:p:=by simp[Fi,Value.oneCell']):p:=h
theorem LD {p:Prop} (h:p:=by rw[h ts rfl];decide):p:=h
theorem Fj {p:Prop} (h:p:=by rw[oX.o];rfl):p:=h
theorem Iq {p:Prop} (h:p:=by simpa using hne):p:=h
theorem Dg {p:Prop} (h:p:=by rw[uB];rfl):p:=h
theorem xp {p:Prop} (h:p:=by simp[hx]):p:=h
theorem Ir {p:Prop} (h:p:=by rw[hlen];omega):p:=h
theorem Iu {p:Prop} (h:p:=by simpa using hn):p:=h
theorem xq {p:Prop} (h:p:=by cases h):p:=h
theorem Fk {p:Prop} (h:p:=by rw[jJ];rfl):p:=h
theorem Fl {p:Prop} (h:p:=by rw[sX];rfl):p:=h
def aC:=@Go.RowKit.Below.refl
def bB:=@Go.bodyPost_ret
def bQ:=@Nat.le_trans
def dN:=@Go.RowKit.Below.heap_setCell
def dz:=@List.length_cons
def ey:=@List.length_append
def bV:=@Nat.zero_le
def dU:=@decide_eq_false
def dK:=@Go.heap_alloc_new
def eA:=@Array.toList_inj
def jq:=@List.drop_eq_getElem_cons
def e7:=@List.length_drop
def gT:=@beq_eq_false_iff_ne
def kC:=@List.getElem?_eq_getElem
def fy:=@decide_eq_true
def iH:=@Nat.lt_of_lt_of_le
def gU:=@List.getElem_mem
def nI:=@List.setIfInBounds_toArray
def e8:=@Nat.pow_succ
def e9:=@Nat.mul_comm
def iw:=@List.length_map
def dZ:=@beq_iff_eq
def jW:=@Go.World.size_alloc
def pS:=@List.length_eq_zero_iff
def gV:=@Nat.le_of_lt
def kD:=@List.length_set
def ox:=@List.set_cons_succ
def lF:=@List.length_nil
def oY:=@List.mem_singleton
def oZ:=@List.set_cons_zero
def mf:=@List.nil_append
def rP:=@List.drop_eq_nil_of_le
def lG:=@List.drop_drop
def kE:=@Nat.add_assoc
def qs:=@List.length_pos_iff
def ic:=@Nat.mod_lt
def o6:=@List.append_assoc
def rQ:=@List.length_replicate
def nJ:=@Bool.or_eq_true
def nK:=@UInt8.toNat_inj
def qu:=@Nat.eq_zero_or_pos
def lH:=@Nat.mul_assoc
def kF:=@Nat.zero_add
def Bo:=@List.take_succ_eq_append_getElem
def lI:=@Nat.lt_or_ge
def pT:=@List.append_nil
def sY:=@List.takeWhile_cons
def nL:=@List.mem_cons
def rR:=@decide_eq_true_eq
def rS:=@Bool.eq_false_iff
def qY:=@Nat.mod_eq_of_lt
def qZ:=@List.drop_length
def zt:=@List.getElem?_eq_some_iff
def mP:=@Go.callsIn_wide
def vL:=@Nat.mul_le_mul_right
def vM:=@List.take_succ_cons
def Bp:=@List.getElem?_append_left
def sZ:=@List.length_tail
def zu:=@List.getElem_cons_zero
def zv:=@List.getElem_cons_succ
def xr:=@Nat.pow_le_pow_right
def qw:=@Int.mul_assoc
def uC:=@List.length_take
def uD:=@List.cons_append
def jA:=@congrArg
def uF:=@Bool.and_eq_true
def Bq:=@Nat.mul_div_cancel_left
def xt:=@Go.wp_region_held_drew
def uG:=@List.mem_append
def vN:=@List.take_length
def zw:=@Nat.mul_le_mul_left
def zx:=@List.flatMap_append
def q7:=@Nat.add_zero
def zy:=@List.getElem?_drop
def zC:=@Bool.false_eq_true
def Bt:=@Bool.or_eq_false_iff
def vO:=@List.map_append
def Dh:=@Nat.div_div_eq_div_mul
def rT:=@Go.Sem.run_bind
def Bu:=@Array.length_toList
def q8:=@Nat.mul_add
def Bv:=@Go.World.ownsRow.alloc
def Di:=@Array.getElem?_modify
def Fm:=@UInt8.toNat_ofNat_of_lt'
def vP:=@UInt8.toNat_lt
def td:=@List.mem_map
def Bx:=@Nat.lt_of_le_of_lt
def Dj:=@List.mem_cons_of_mem
def Fo:=@List.getElem?_cons_succ
def zD:=@Nat.gcd_dvd_left
def kG:=@if_true
def zF:=@Go.Lib.ownsRow_kind
def LF:=@Array.all_eq_true_iff_forall_mem
def Iv:=@List.getD_eq_getElem?_getD
def th:=@Nat.add_mul
def zG:=@Go.RowKit.Below.heap_alloc
def Fp:=@List.getElem?_eq_none
def Bz:=@List.getElem_map
def BA:=@Nat.div_eq_of_lt
def vQ:=@Nat.pow_zero
def Iw:=@Nat.gcd_pos_of_pos_right
def rU:=@Go.iterPos_of
def BB:=@Go.Lib.below_iterAt
def uH:=@Nat.pow_pos
def Dk:=@List.flatMap_cons
def Iy:=@Int.eq_ofNat_of_zero_le
def Iz:=@Go.World.block_lt_of_cell?
def Fq:=@List.dropWhile_cons
def IA:=@List.take_of_length_le
def IB:=@Option.map_eq_some_iff
def zH:=@List.map_cons
def LG:=@List.getElem?_append_right
def IC:=@Nat.le_div_iff_mul_le
def ID:=@List.take_append_drop
def IE:=@List.mem_of_mem_take
def Fs:=@of_decide_eq_true
def Dl:=@Go.World.iter_heap
def Dm:=@Go.Lib.iterAt_heap
def Fu:=@Go.Result.andThen_ok
def Fv:=@List.not_mem_nil
def IF:=@Go.Lib.run_next_end_at
def Fw:=@Go.Lib.iterAt_other
def BC:=@List.map_nil
def BD:=@Nat.add_comm
def LH:=@Nat.le_mul_of_pos_left
def IG:=@Int.natAbs_natCast
def zI:=@Go.cell_of_row
def Fx:=@Nat.min_eq_left
def zJ:=@Go.getD_set_ne
def tj:=@if_false
def Fy:=@Bool.eq_iff_iff
def Fz:=@Nat.div_le_self
def Dn:=@Nat.lt_irrefl
def LI:=@List.length_singleton
open Go.ChangeShapes Go.WideShapes Go.ChangeAt Go.RowKit
theorem ac9 {H:Type} {enc:TypeId×Value→H} {P:Program} (hl:laidOutB P=true) {W W':World} (hb:Below W.heap.size W W') :
  ∀ {ts:List TypeId} {vs:List Value} {ds:List (DataW H)} {ps:List MemPlace},(∀ t∈ts,P.readableRec t=true∧t < P.types.size) →
   DataW.TrodAll enc P W 0 (fun _=>true) true ts vs ds ps→(∀ x∈ps,x.block < W.heap.size) →
   DataW.TrodAll enc P W' 0 (fun b=>decide (b < W.heap.size)) true ts vs ds ps
 | [],[],[],_,_,h,_=>h
 | t::ts,v::vs,d::ds,ps,hr,h,hlt=>by
  obtain⟨p,q,h1,h2,rfl⟩:=h;exact⟨p,q,Below.trod hl (hr t aB).1 (hr t aB).2 h1 hb (fun x hx=>hlt x xp),
   ac9 hl hb (fun t ht=>hr t (by simp[ht])) h2 (fun x hx=>hlt x xp),rfl⟩
 | [],[],_::_,_,_,h,_=>h.elim
 | [],_::_,_,_,_,h,_=>h.elim
 | _::_,[],_,_,_,h,_=>h.elim
 | _::_,_::_,[],_,_,h,_=>h.elim
theorem ajy {H:Type} {enc:TypeId×Value→H} {P:Program} {f:Func} {s:ChangeSpec} {W W':World} {args:Array Value} {ds gs:List (DataW H)} {before:List MemPlace} {tb:TypeId}
  (hl:laidOutB P=true) (hr:∀ t∈f.params.toList,P.readableRec t=true∧t < P.types.size) (hres:f.resultTypes=#[tb]) (Qu:P.underlying tb=some .bool)
  (ada:s.vars=[]) (hfn:∀ l:List (DataW H),l.length=f.params.size→s.fn H l = { results:=[.lit (.bool true)],args:=l })
  (hW:DataW.Whole enc P f.params.toList s.vars false W args.toList ds gs before) (hb:Below W.heap.size W W') :
  s.post enc P f false true false false W args (.bool true) W':=by
 have Qv:=hW;obtain⟨p,q,hA,hV,rfl,hfz,xK⟩:=hW;rw[ada]at hV;obtain⟨rfl,rfl⟩:=trodVars_none hV;have hlen:ds.length=f.params.size:=by
  have:∀ {ts:List TypeId} {vs:List Value} {ds:List (DataW H)} {ps:List MemPlace},DataW.TrodAll enc P W 0 (fun _=>true) true ts vs ds ps→ds.length=ts.length:=by
   intro ts
   induction ts with
   | nil=>intro vs ds ps h;cases vs<;>cases ds<;>first|rfl|exact h.elim
   | cons t ts ih=>
    intro vs ds ps h;cases vs with
    | nil=>exact h.elim
    | cons v vs=>
     cases ds with
     | nil=>exact h.elim
     | cons d ds=>obtain⟨p,q,_,h2,_⟩:=h;simp[ih h2]
  simpa using this hA
 have e1:s.fn H (ds++[]) = { results:=[.lit (.bool true)],args:=ds }:=(by rw[pT];exact hfn ds hlen);refine⟨ds,[],p++[],[],p,[],Qv,?_,?_,?_,?_,fun h=>xq⟩
 ·rw[e1,hres];exact trodAll_cons_mk (shut_bool Qu true) trodAll_mk0
 ·rw[e1];exact ac9 hl hb hr hA (fun x hx=>Qv.lt x xp)
 ·rw[e1,ada];rfl
 ·exact hb.frame _
def Qw (b:Bool):List Value:=[.bool b]
def Qx (k:IntKind) (n:Int):List Value:=[.int k n]
def Qy (s:ByteArray):List Value:=[.string s]
structure Sl (w:World) (a:Option Addr) (n cap size:Nat) (cs:List Value):Prop where
 len:cs.length=n*size
 le:n≤cap
 max:cap≤maxLen
 nil:a=none→cap=0
 at':∀ j,j < cs.length→∃ b o,a=some ⟨b,o,none⟩∧w.cell? ⟨b,o+j,none⟩=cs[j]?
theorem Sl.addr {w:World} {a:Option Addr} {n cap size:Nat} {cs:List Value} (h:Sl w a n cap size cs) (hn:0 < n) (hs:0 < size) :
  ∃ b o,a=some ⟨b,o,none⟩∧b < w.heap.size∧∀ j,j < n*size→w.cell? ⟨b,o+j,none⟩=cs[j]?:=by
 have hp:0 < n*size:=Nat.mul_pos hn hs;obtain⟨b,o,rfl,h0⟩:=h.at' 0 (by rw[h.len];exact hp);refine⟨b,o,rfl,?_,fun j hj=>?_⟩
 ·rw[kC (by rw[h.len];exact hp)]at h0;exact Iz w _ h0
 ·obtain⟨b',o',e,h1⟩:=h.at' j (by rw[h.len];exact hj);simp only[Option.some.injEq,Addr.mk.injEq]at e;obtain⟨rfl,rfl,_⟩:=e;exact h1
theorem Sl.keep {w w':World} {a:Option Addr} {n cap size:Nat} {cs:List Value} (h:Sl w a n cap size cs) (hb:Below w.heap.size w w'):Sl w' a n cap size cs:=
 ⟨h.len,h.le,h.max,h.nil,fun j hj=>by
  obtain⟨b,o,e,h1⟩:=h.at' j hj;refine⟨b,o,e,?_⟩;rw[hb.cell (p:=⟨b,o+j,none⟩) ?_]
  ·exact h1
  ·rw[kC hj]at h1;exact Iz w _ h1⟩
theorem Sl.mk0 (w:World) (size:Nat):Sl w none 0 0 size []:=⟨aB,aB,by simp[maxLen],fun _=>rfl,fun j hj=>by simp at hj⟩
theorem Sl.adb {w:World} {base:Nat} {e:TypeId} {size:Nat} {a:Option Addr} {n n' cap:Nat} {xs:List Value} (h:w.ownsRow base e size (.slice a n cap) n' xs):n=n'∧Sl w a n cap size xs:=by
 rcases h.2 with ⟨hv,rfl⟩|⟨g,cap',cur,hv,_,hg,hle,hmx,hsz,iJ⟩
 ·cases hv
  have:xs=[]:=by simpa using h.1
  subst this;exact⟨rfl,Sl.mk0 w size⟩
 ·cases hv
  refine⟨rfl,h.1,hle,hmx,fun e=>by simp at e,fun j hj=>⟨g,0,rfl,?_⟩⟩;have:=h.cells (g:=g) rfl j (xs[j]) (kC hj);rw[Addr.add_lit]at this;rw[this,kC hj]
theorem ajz {w:World} {base:Nat} {e:TypeId} {size:Nat} {v:Value} {n:Nat} {xs:List Value} (h:w.ownsRow base e size v n xs):∃ a cap,v=.slice a n cap:=by
 rcases h.2 with ⟨hv,rfl⟩|⟨g,cap',cur,hv,_⟩
 ·exact⟨_,_,hv⟩
 ·exact⟨_,_,hv⟩
theorem o7 {α:Type} {en:α→List Value} {size:Nat} (h:∀ a,(en a).length=size) (xs:List α):(xs.flatMap en).length=xs.length*size:=by
 induction xs with
 | nil=>simp
 | cons x xs ih=>simp[ih,h,th,BD]
theorem ajA {α:Type} {en:α→List Value} {size:Nat} (h:∀ a,(en a).length=size) (xs:List α) (i:Nat) (hi:i < xs.length) (j:Nat) (hj:j < size) :
  (xs.flatMap en)[i*size+j]? = (en xs[i])[j]?:=by
 induction xs generalizing i with
 | nil=>simp at hi
 | cons x xs ih=>
  cases i with
  | zero=>simp[Bp (show j < (en x).length by rw[h];exact hj)]
  | succ i=>
   rw[Dk,LG (by rw[h,th];omega),h];have:=ih i (by simpa using hi);rw[show(i+1)*size+j - size=i*size+j by rw[th];omega]
   simpa using this
structure eO (P:Program) (t e:TypeId) (size bytes:Nat):Prop where
 under:P.underlying t=some (.slice e)
 ex:∃ i z,P.info? e=some i∧i.zero=some z∧i.size=size∧i.bytes=bytes∧z.cells.size=size
 pos:0 < size
 auP:0 < bytes
theorem eO.mk' {P:Program} {t e:TypeId} {size bytes:Nat} (z:Value) (h:P.underlying t=some (.slice e)) (hi:(P.info? e).map (fun i=>(i.zero,i.size,i.bytes))=some (some z,size,bytes))
  (hz:z.cells.size=size) (hp:0 < size) (hb:0 < bytes):eO P t e size bytes:=by
 obtain⟨i,h1,h2,h3,h4⟩:=info_parts hi;exact⟨h,⟨i,z,h1,h2,h3,h4,hz⟩,hp,hb⟩
def bA {α:Type} (w:World) (en:α→List Value) (size:Nat) (a:Option Addr) (cap:Nat) (xs:List α):Prop:=Sl w a xs.length cap size (xs.flatMap en)
def aG {α:Type} (w:World) (base:Nat) (e:TypeId) (size:Nat) (en:α→List Value) (v:Value) (xs:List α):Prop:=w.ownsRow base e size v xs.length (xs.flatMap en)
theorem aG.nil {α:Type} (w:World) (base:Nat) (e:TypeId) (size:Nat) (en:α→List Value):aG w base e size en (.slice none 0 0) []:=World.ownsRow_nil w base e size
theorem aG.sl {α:Type} {w:World} {base:Nat} {e:TypeId} {size:Nat} {en:α→List Value} {a:Option Addr} {n cap:Nat} {xs:List α} (h:aG w base e size en (.slice a n cap) xs):n=xs.length∧bA w en size a cap xs:=by
 obtain⟨rfl,h2⟩:=Sl.adb h;exact⟨rfl,h2⟩
theorem aG.shape {α:Type} {w:World} {base:Nat} {e:TypeId} {size:Nat} {en:α→List Value} {v:Value} {xs:List α} (h:aG w base e size en v xs):∃ a cap,v=.slice a xs.length cap∧bA w en size a cap xs:=by
 obtain⟨a,cap,rfl⟩:=ajz h;exact⟨a,cap,rfl,(Sl.adb h).2⟩
theorem aG.block {α:Type} {w:World} {base:Nat} {e:TypeId} {size:Nat} {en:α→List Value} {v:Value} {xs:List α} (h:aG w base e size en v xs) (hne:0 < xs.length) :
  ∃ g cap,v=.slice (some ⟨g,0,none⟩) xs.length cap∧base≤g∧g < w.heap.size∧xs.length≤cap∧cap≤9223372036854775807:=by
 rcases h.2 with ⟨hv,h0⟩|⟨g,cap,cur,hv,hb,hg,hle,hm,_⟩
 ·omega
 ·exact⟨g,cap,hv,hb,(gE hg),hle,by unfold maxLen at hm;omega⟩
theorem aG.alloc {α:Type} {w:World} {base:Nat} {e:TypeId} {size:Nat} {en:α→List Value} {v:Value} {xs:List α} (h:aG w base e size en v xs) (o:Obj):aG (w.alloc o) base e size en v xs:=Bv h o
theorem aG.drew {α:Type} {w:World} {base:Nat} {e:TypeId} {size:Nat} {en:α→List Value} {v:Value} {xs:List α} (h:aG w base e size en v xs):aG w.drew base e size en v xs:=h
theorem aG.keep {α:Type} {w w':World} {base:Nat} {e:TypeId} {size:Nat} {en:α→List Value} {v:Value} {xs:List α} (h:aG w base e size en v xs) {B:Nat} (hb:Below B w w') (hB:w.heap.size≤B):aG w' base e size en v xs:=
 World.ownsRow.kept (row:=none) h ⟨hb.os,hb.tape,hb.output,hb.size,fun k hk _=>hb.block k ae⟩ (by cases hv:v.ownBlock<;>simp)
theorem bA.keep {α:Type} {w w':World} {en:α→List Value} {size:Nat} {a:Option Addr} {cap:Nat} {xs:List α} (h:bA w en size a cap xs) {B:Nat} (hb:Below B w w') (hB:w.heap.size≤B):bA w' en size a cap xs:=
 Sl.keep h (hb.mono hB)
theorem bA.len {α:Type} {w:World} {en:α→List Value} {size:Nat} {a:Option Addr} {cap:Nat} {xs:List α} (h:bA w en size a cap xs):xs.length≤cap∧xs.length≤9223372036854775807∧cap≤9223372036854775807:=by
 have h1:=h.le;have h2:=h.max;unfold maxLen at h2;omega
theorem bA.cells {α:Type} {w:World} {en:α→List Value} {size:Nat} {a:Option Addr} {cap:Nat} {xs:List α} (h:bA w en size a cap xs) (hen:∀ x,(en x).length=size) (hs:0 < size) {k:Nat} (hk:k < xs.length) :
  ∃ b o,a=some ⟨b,o,none⟩∧b < w.heap.size∧∀ j,j < size→w.cell? ⟨b,o+(k*size+j),none⟩=(en xs[k])[j]?:=by
 obtain⟨b,o,rfl,hb,hc⟩:=Sl.addr h ae hs;refine⟨b,o,rfl,hb,fun j hj=>?_⟩;have:k*size+j < xs.length*size:=by
  have:(k+1)*size≤xs.length*size:=vL _ hk;rw[th]at this;omega
 rw[hc _ this];exact ajA hen xs k hk j hj
theorem bA.cell1 {α:Type} {w:World} {en:α→List Value} {a:Option Addr} {cap:Nat} {xs:List α} (h:bA w en 1 a cap xs) (f:α→Value) (hen:∀ x,en x=[f x]) {k:Nat} (hk:k < xs.length) :
  ∃ b o,a=some ⟨b,o,none⟩∧b < w.heap.size∧w.cell? ⟨b,o+k,none⟩=some (f xs[k]):=by
 obtain⟨b,o,rfl,hb,hc⟩:=h.cells (fun x=>by rw[hen];rfl) ae hk;refine⟨b,o,rfl,hb,?_⟩;have:=hc 0 ae;rw[hen]at this
 simpa using this
theorem bA.pre {α:Type} {w:World} {en:α→List Value} {size:Nat} {a:Option Addr} {cap:Nat} {xs ys:List α} (h:bA w en size a cap (xs++ys)) (hen:∀ x,(en x).length=size):bA w en size a cap xs:=by
 refine⟨o7 hen xs,?_,h.max,h.nil,fun j hj=>?_⟩
 ·have:=h.le;rw[ey]at this;omega
 ·obtain⟨b,o,e,h1⟩:=h.at' j (by rw[zx,ey];omega);refine⟨b,o,e,?_⟩;rw[h1,zx,Bp hj]
theorem bA.nil {α:Type} (w:World) (en:α→List Value) (size:Nat):bA w en size none 0 []:=Sl.mk0 w size
theorem bA.lit {α:Type} (w:World) (en:α→List Value) (size:Nat) (hen:∀ x,(en x).length=size) (xs:List α) (cells:Array Value) (ty:TypeId) (n:Nat) (hc:cells.toList=xs.flatMap en) (hn:xs.length=n) (hm:n≤maxLen) :
  bA (w.alloc (.cells cells ty)) en size (some ⟨w.heap.size,0,none⟩) n xs:=
 ⟨o7 hen xs,ae,hm,fun h=>by simp at h,fun j hj=>⟨w.heap.size,0,rfl,by
  rw[kF,zI _ _ _ cells ty (0,0) (dK w _),← hc];simp⟩⟩
theorem aG.free {α:Type} {w:World} {base:Nat} {e:TypeId} {size:Nat} {en:α→List Value} {g n cap:Nat} {xs:List α} (h:aG w base e size en (.slice (some ⟨g,0,none⟩) n cap) xs) (k:Nat):w.frozen? ⟨g,k,none⟩=false:=by
 rcases h.2 with ⟨hv,_⟩|⟨g',cap',cur,hv,_,hg,_⟩
 ·cases hv
 ·cases hv
  simp[World.frozen?,hg]
theorem map_set {α β:Type} (f:α→β) (l:List α) (k:Nat) (y:α):(l.set k y).map f=(l.map f).set k (f y):=List.map_set
theorem ajB {α:Type} (en:α→List Value) (f:α→Value) (hen:∀ x,en x=[f x]) (xs:List α):xs.flatMap en=xs.map f:=by
 induction xs with
 | nil=>rfl
 | cons x xs ih=>rw[Dk,ih,hen];rfl
theorem aG.Qz {α:Type} {w:World} {base:Nat} {e:TypeId} {en:α→List Value} {g n cap:Nat} {xs:List α} (f:α→Value) (hen:∀ x,en x=[f x]) (h:aG w base e 1 en (.slice (some ⟨g,0,none⟩) n cap) xs) {k:Nat} (y:α) (hk:k < xs.length) :
  aG (w.setCell ⟨g,k,none⟩ (f y)) base e 1 en (.slice (some ⟨g,0,none⟩) n cap) (xs.set k y):=by
 unfold aG at h ⊢;rw[ajB en f hen]at h ⊢;refine⟨aB,.inr ?_⟩;rcases h.2 with ⟨hv,_⟩|⟨g',cap',cur,hv,hb,hg,hle,hm,hs,iJ⟩
 ·cases hv
 ·cases hv
  refine⟨g,cap,cur.setIfInBounds k (f y),aB,hb,?_,by simpa using hle,hm,by simpa using hs,?_⟩
  ·simp[World.setCell,Di,hg]
  ·rw[Array.toList_setIfInBounds,kD,List.take_set,map_set,← iJ]
theorem aG.lit {α:Type} (w:World) (base:Nat) (en:α→List Value) (size:Nat) (hen:∀ x,(en x).length=size) (xs:List α) (cells:Array Value) (ty:TypeId) (n:Nat) (hc:cells.toList=xs.flatMap en) (hn:xs.length=n) (hm:n≤maxLen) (hb:base≤w.heap.size) :
  aG (w.alloc (.cells cells ty)) base ty size en (.slice (some ⟨w.heap.size,0,none⟩) n n) xs:=by
 subst hn;refine⟨o7 hen xs,.inr ⟨w.heap.size,xs.length,cells,rfl,hb,dK w _,af,hm,?_,?_⟩⟩
 ·rw[← Bu,hc,o7 hen]
 ·rw[hc,IA (by rw[o7 hen];exact af)]
theorem aH {B:Nat} {w w1 w2:World} (h1:Below B w w1) (h2:Below w1.heap.size w1 w2) (hB:B≤w.heap.size):Below B w w2:=
 h1.trans (h2.mono (bQ hB h1.size))
theorem VB {P:Program} {w:World} {base:Nat} {t ty e:TypeId} {i:TypeInfo} {z:Value} (ht:P.underlying t=some (.slice e)) (hi:P.info? e=some i) (hz:i.zero=some z)
  {v:Value} {n:Nat} {xs:List Value} (hown:w.ownsRow base e i.size v n xs) {a:Addr} {m c:Nat} {news:List Value} (hl:news.length=m*i.size)
  (hnews:∀ j u,news[j]? = some u→w.cell? (a.add j)=some u) (h1:∀ u∈news,u.oneCell' = true) (hm:0 < m) (h63:n+m≤maxLen) (hbytes:(n+m)*i.bytes≤140737488355328)
  {v':Value} {w':World} (hr:(Builtin.append_ #[t,t] ty #[v,.slice (some a) m c]).run P w=.ok v' w'):∀ k,v'.ownBlock=some k→v.ownBlock=some k∨w.heap.size≤k:=by
 have acz:n+m≤9223372036854775807:=(by simp only[maxLen]at h63;omega);rcases hown.2 with ⟨rfl,rfl⟩|⟨g,cap,cur,rfl,hbg,hg,LP,hcm,hcs,acA⟩
 ·have hr2:=run_append_nil (P:=P) w t ty e i z ht hi hz a m c news hl hnews ae ae U7;rw[hr2]at hr;cases hr
  intro k hk;simp[Value.ownBlock]at hk;omega
 ·by_cases hroom:n+m≤cap
  ·refine UK ?_;intro o8;have hr2:=run_append_room (P:=P) w t ty e i ht hi g n cap cur hg a m c news hl hnews h1 hroom o8;rw[hr2]at hr;cases hr
   intro k hk;exact .inl hk
  ·refine UT ?_;intro holds;have hr2:=run_append_grow (P:=P) w t ty e i z ht hi hz ⟨g,0,none⟩ n cap xs hown.1 holds a m c news hl hnews ae ae (growslice_fits ae hbytes);rw[hr2]at hr;cases hr
   intro k hk;simp[Value.ownBlock]at hk;omega
def Apart (u v:Value):Prop:=∀ k,u.ownBlock=some k→v.ownBlock=some k→False
theorem Apart.symm {u v:Value} (h:Apart u v):Apart v u:=fun k h1 h2=>h k h2 h1
theorem Apart.nil (v:Value):Apart (.slice none 0 0) v:=fun k h=>by simp[Value.ownBlock]at h
theorem aG.lt {α:Type} {w:World} {base:Nat} {e:TypeId} {size:Nat} {en:α→List Value} {v:Value} {xs:List α} (h:aG w base e size en v xs):∀ k,v.ownBlock=some k→base≤k∧k < w.heap.size:=World.ownsRow.lt h
theorem aG.other {α:Type} {w w1:World} {base:Nat} {e:TypeId} {size:Nat} {en:α→List Value} {u v:Value} {xs:List α} (h:aG w base e size en u xs) (hg:w.grownBy w1 v.ownBlock) (ha:Apart v u):aG w1 base e size en u xs:=by
 refine World.ownsRow.kept h hg ?_;cases hu:u.ownBlock with
 | none=>exact .inl rfl
 | some k=>exact .inr fun e=>ha k e.symm hu
theorem Apart.app {α:Type} {w:World} {base:Nat} {e:TypeId} {size:Nat} {en:α→List Value} {u v v':Value} {xs:List α} (ha:Apart v u) (h:aG w base e size en u xs) (hv:∀ k,v'.ownBlock=some k→v.ownBlock=some k∨w.heap.size≤k):Apart v' u:=by
 intro k h1 h2;rcases hv k h1 with h3|h3
 ·exact ha k h3 h2
 ·have:=(h.lt k h2).2;omega
theorem iL {α:Type} {en:α→List Value} {P:Program} {w0 wr:World} {ops:Array Oper} {rest:List Oper} {o:Oper} {a:Act} {Q:Exit→Act→World→Prop} {s x:Operand}
  {t e:TypeId} {size bytes:Nat} (T:eO P t e size bytes) {base:Nat} {v:Value} (xs:List α) (y:α) {cells:Array Value} {ty:TypeId}
  (hown:aG wr base e size en v xs) (bP:Below base w0 wr) (hbase:base≤w0.heap.size) (hbound:(xs.length+1)*bytes≤140737488355328)
  (h:∀ v' w1,aG w1 base e size en v' (xs++[y])→Below base w0 w1→wr.grownBy w1 v.ownBlock→(∀ k,v'.ownBlock=some k→v.ownBlock=some k∨wr.heap.size≤k)→wpList P ops Q rest (a.put o.dst v') w1)
  (hgd:o.guard=none:=by rfl) (ho:o.op=.call { callee:=.builtin .append,args:=#[s,x],argTypes:=#[t,t] }:=by rfl)
  (hs:a.eval s=v:=by rfl) (hx:a.eval x=.slice (some ⟨wr.heap.size,0,none⟩) 1 1:=by rfl)
  (hy:cells.toList=en y:=by rfl) (hlen:(en y).length=size:=by rfl) (hone:∀ u∈en y,u.oneCell' = true:=by simp[Qw,Qx,Qy,Value.oneCell']) :
  wpList P ops Q (o::rest) a (wr.alloc (.cells cells ty)):=by
 obtain⟨hu,⟨i,z,hi,hz,h1,h2,h3⟩,hp,oh⟩:=T;subst h1;subst h2;have hsz:=bP.size;have hn:xs.length+1≤maxLen:=by
  exact Uu
 have hnews:∀ j u,(en y)[j]? = some u→(wr.alloc (.cells cells ty)).cell? ((⟨wr.heap.size,0,none⟩:Addr).add j)=some u:=by
  exact Uq
 have hl:(en y).length=1*i.size:=Ir;refine wpList_plain hgd fun K hK=>?_
 obtain⟨v',w',hr,g1,g2,_⟩:=run_append_own (P:=P) (wr.alloc (.cells cells ty)) base t o.type e i z i.size i.bytes hu hi hz rfl rfl h3 hp v xs.length (xs.flatMap en) (Bv hown _) ⟨wr.heap.size,0,none⟩ 1 1 (en y) hl hnews hone hn hbound cO;have hblk:=VB hu hi hz (Bv hown _) hl hnews hone ae hn hbound hr;refine OC ?_;refine hK _ _ (h v' w' ?_ ?_ ?_ ?_)
 ·refine Lk ?_
  simpa using g1
 ·exact ab7
 ·exact abF
 ·intro k hk;rcases hblk k hk with h5|h5
  ·exact .inl h5
  ·simp at h5;exact .inr ae
theorem BK {α:Type} {en:α→List Value} {P:Program} {w0 wr:World} {ops:Array Oper} {rest:List Oper} {o:Oper} {a:Act} {Q:Exit→Act→World→Prop} {s x:Operand}
  {t e:TypeId} {size bytes:Nat} (T:eO P t e size bytes) {base:Nat} {v:Value} (xs:List α) (y:α) {cells:Array Value} {ty:TypeId}
  (hown:aG wr base e size en v xs) (bP:Below base w0 wr) (hbase:base≤w0.heap.size) (hbound:(xs.length+1)*bytes≤140737488355328)
  (h:∀ v' w1,aG w1 base e size en v' (xs++[y])→Below base w0 w1→wpList P ops Q rest (a.put o.dst v') w1)
  (hgd:o.guard=none:=by rfl) (ho:o.op=.call { callee:=.builtin .append,args:=#[s,x],argTypes:=#[t,t] }:=by rfl)
  (hs:a.eval s=v:=by rfl) (hx:a.eval x=.slice (some ⟨wr.heap.size,0,none⟩) 1 1:=by rfl)
  (hy:cells.toList=en y:=by rfl) (hlen:(en y).length=size:=by rfl) (hone:∀ u∈en y,u.oneCell' = true:=by simp[Qw,Qx,Qy,Value.oneCell']) :
  wpList P ops Q (o::rest) a (wr.alloc (.cells cells ty)):=by
 obtain⟨hu,⟨i,z,hi,hz,h1,h2,h3⟩,hp,oh⟩:=T;have hsz:=bP.size;have hn:xs.length+1≤maxLen:=by
  have:(xs.length+1)*1≤(xs.length+1)*bytes:=zw _ oh;unfold maxLen;omega
 refine wpList_append_own _ hgd s x t ho base e i z size bytes hu hi hz h1 h2 h3 hp v xs.length (xs.flatMap en) hs (Bv hown _) ⟨wr.heap.size,0,none⟩ 1 1 (en y) hx Ir ?_ hone hn hbound cO ?_
 ·exact Uq
 ·intro v' w' hown' hg _;refine h v' w' ?_ ?_
  ·refine Lk ?_
   simpa using hown'
  ·exact(bP.alloc ae _).grown hg cO (fun k hk=>(World.ownsRow.lt hown k hk).1)
theorem FH {α:Type} {en:α→List Value} {P:Program} {w0 W:World} {ops:Array Oper} {o:Oper} {a:Act} {K:Act→World→Prop} {Q:Exit→Act→World→Prop} {E:Prop} {s x:Operand}
  {t e:TypeId} {size bytes:Nat} (T:eO P t e size bytes) {base:Nat} {v:Value} (xs:List α) (y:α) {g:Nat} {cells:Array Value} {ty:TypeId}
  (hown:aG W base e size en v xs) (bP:Below base w0 W) (hbase:base≤w0.heap.size) (hbound:(xs.length+1)*bytes≤140737488355328) (hg:W.heap[g]? = some (.cells cells ty))
  (h:∀ v' w1,aG w1 base e size en v' (xs++[y])→Below base w0 w1→W.grownBy w1 v.ownBlock→(∀ k,v'.ownBlock=some k→v.ownBlock=some k∨W.heap.size≤k)→K (a.put o.dst v') w1)
  (hgd:o.guard=none:=by rfl) (ho:o.op=.call { callee:=.builtin .append,args:=#[s,x],argTypes:=#[t,t] }:=by rfl)
  (hs:a.eval s=v:=by rfl) (hx:a.eval x=.slice (some ⟨g,0,none⟩) 1 1:=by rfl)
  (hy:cells.toList=en y:=by rfl) (hlen:(en y).length=size:=by rfl) (hone:∀ u∈en y,u.oneCell' = true:=by simp[Qw,Qx,Qy,Value.oneCell']) :
  if Region.wanted o (yielded ops a.tmps)=true then Oper.wp P o a W K Q else E:=by
 obtain⟨hu,⟨i,z,hi,hz,h1,h2,h3⟩,hp,oh⟩:=T;subst h1;subst h2;have hsz:=bP.size;have hn:xs.length+1≤maxLen:=by
  exact Uu
 have hnews:∀ j u,(en y)[j]? = some u→W.cell? ((⟨g,0,none⟩:Addr).add j)=some u:=by
  intro j u hu;rw[Addr.add_lit,kF,zI _ _ _ cells ty (0,0) hg];rw[← hu,← hy];simp
 have hl:(en y).length=1*i.size:=Ir;refine Ia ?_;obtain⟨v',w',hr,g1,g2,_⟩:=run_append_own (P:=P) W base t o.type e i z i.size i.bytes hu hi hz rfl rfl h3 hp v xs.length (xs.flatMap en) hown ⟨g,0,none⟩ 1 1 (en y) hl hnews hone hn hbound ae;have hblk:=VB hu hi hz hown hl hnews hone ae hn hbound hr;refine OC ?_;refine h v' w' ?_ ?_ ?_ ?_
 ·refine Lk ?_
  simpa using g1
 ·exact bP.grown g2 ae (fun k hk=>(World.ownsRow.lt hown k hk).1)
 ·exact g2
 ·exact hblk
theorem bA.of_block {α:Type} {w w':World} {en:α→List Value} {size:Nat} {a:Option Addr} {cap:Nat} {xs:List α} (h:bA w en size a cap xs) (hb:∀ b o,a=some ⟨b,o,none⟩→w'.heap[b]? = w.heap[b]?):bA w' en size a cap xs:=
 ⟨Sl.len h,Sl.le h,Sl.max h,Sl.nil h,fun j hj=>by
  obtain⟨b,o,e,h1⟩:=Sl.at' h j hj;exact⟨b,o,e,by rw[← h1];exact World.cell?_of_block (hb b o e)⟩⟩
theorem bA.drew {α:Type} {w:World} {en:α→List Value} {size:Nat} {a:Option Addr} {cap:Nat} {xs:List α} (h:bA w en size a cap xs):bA w.drew en size a cap xs:=
 h.keep (aC _ _).drew af
theorem bA.alloc {α:Type} {w:World} {en:α→List Value} {size:Nat} {a:Option Addr} {cap:Nat} {xs:List α} (h:bA w en size a cap xs) (o:Obj):bA (w.alloc o) en size a cap xs:=
 h.keep ((aC w.heap.size w).alloc af o) af
theorem ajC {w w':World} {a:Addr} {v:Value} (h:w.cell? a=some v) {B:Nat} (hb:Below B w w') (hB:a.block < B):w'.cell? a=some v:=by
 rw[hb.cell hB];exact h
theorem dx {w w':World} {a:Addr} {v:Value} (h:w.cell? a=some v) (hb:Below w.heap.size w w'):w'.cell? a=some v:=
 ajC h hb (Iz w _ h)
def ai (w:World) (k:Nat) (cs:Array Value):Prop:=∃ T,w.heap[k]? = some (.cells cs T)
theorem ai.keep {w w':World} {k:Nat} {cs:Array Value} (h:ai w k cs) {B:Nat} (hb:Below B w w') (hB:w.heap.size≤B):ai w' k cs:=by
 obtain⟨T,h⟩:=h;refine⟨T,?_⟩;rw[hb.block k (iH ?_ hB)]
 ·exact h
 ·exact(gE h)
theorem ai.lt {w:World} {k:Nat} {cs:Array Value} (h:ai w k cs):k < w.heap.size:=by
 obtain⟨T,h⟩:=h;exact(gE h)
theorem ai.new (w:World) (cs:Array Value) (T:TypeId):ai (w.alloc (.cells cs T)) w.heap.size cs:=⟨T,dK w _⟩
theorem ai.alloc {w:World} {k:Nat} {cs:Array Value} (h:ai w k cs) (o:Obj):ai (w.alloc o) k cs:=h.keep ((aC w.heap.size w).alloc af o) af
theorem ai.drewN {w:World} {k:Nat} {cs:Array Value} (h:ai w k cs) (n:Nat):ai (w.drewN n) k cs:=h.keep (Go.below_drewN (aC _ _) n) af
theorem ai.other {w:World} {k:Nat} {cs:Array Value} (h:ai w k cs) {a:Addr} (ha:a.block≠k) (v:Value):ai (w.setCell a v) k cs:=by
 obtain⟨T,h⟩:=h;exact⟨T,by rw[dN w a v k (Ne.symm ha)];exact h⟩
theorem ai.cell {w:World} {k:Nat} {cs:Array Value} (h:ai w k cs) (j:Nat) (u:Value) (hu:cs[j]? = some u):w.cell? ⟨k,j,none⟩=some u:=by
 obtain⟨T,h⟩:=h;rw[zI _ _ _ cs T (0,0) h];exact hu
theorem ai.free {w:World} {k:Nat} {cs:Array Value} (h:ai w k cs) (j:Nat):w.frozen? ⟨k,j,none⟩=false:=by
 obtain⟨T,h⟩:=h;simp[World.frozen?,h]
theorem ai.two {w:World} {k:Nat} {x y:Value} (h:ai w k #[x,y]):w.cell? ⟨k,0,none⟩=some x∧w.cell? ⟨k,1,none⟩=some y∧w.frozen? ⟨k,0,none⟩=false∧w.frozen? ⟨k,1,none⟩=false:=
 ⟨h.cell 0 x rfl,h.cell 1 y rfl,h.free 0,h.free 1⟩
theorem ai.three {w:World} {k:Nat} {x y z:Value} (h:ai w k #[x,y,z]):w.cell? ⟨k,0,none⟩=some x∧w.cell? ⟨k,1,none⟩=some y∧w.cell? ⟨k,2,none⟩=some z∧w.frozen? ⟨k,0,none⟩=false∧w.frozen? ⟨k,1,none⟩=false∧w.frozen? ⟨k,2,none⟩=false:=
 ⟨h.cell 0 x rfl,h.cell 1 y rfl,h.cell 2 z rfl,h.free 0,h.free 1,h.free 2⟩
theorem ri (w:World) (xs:Array Value) (A:TypeId) :
  ai (w.alloc (.cells xs A)) w.heap.size xs∧(w.alloc (.cells xs A)).heap.size=w.heap.size+1∧Below w.heap.size w (w.alloc (.cells xs A)):=
 ⟨ai.new _ _ _,aB,(aC _ _).alloc af _⟩
theorem rj (w:World) (xs ys:Array Value) (A B:TypeId) :
  ai ((w.alloc (.cells xs A)).alloc (.cells ys B)) w.heap.size xs∧ai ((w.alloc (.cells xs A)).alloc (.cells ys B)) (w.heap.size+1) ys∧((w.alloc (.cells xs A)).alloc (.cells ys B)).heap.size=w.heap.size+2 ∧
  Below w.heap.size w ((w.alloc (.cells xs A)).alloc (.cells ys B)):=by
 have h:=ai.new (w.alloc (.cells xs A)) ys B;have e:(w.alloc (.cells xs A)).heap.size=w.heap.size+1:=aB;rw[e]at h;exact⟨(ai.new w xs A).alloc _,h,aB,((aC _ _).alloc af _).alloc aB _⟩
theorem VF (w:World) (xs ys zs:Array Value) (A B C:TypeId) :
  ai (((w.alloc (.cells xs A)).alloc (.cells ys B)).alloc (.cells zs C)) w.heap.size xs∧ai (((w.alloc (.cells xs A)).alloc (.cells ys B)).alloc (.cells zs C)) (w.heap.size+1) ys ∧
  ai (((w.alloc (.cells xs A)).alloc (.cells ys B)).alloc (.cells zs C)) (w.heap.size+1+1) zs∧(((w.alloc (.cells xs A)).alloc (.cells ys B)).alloc (.cells zs C)).heap.size=w.heap.size+3 ∧
  Below w.heap.size w (((w.alloc (.cells xs A)).alloc (.cells ys B)).alloc (.cells zs C)):=by
 obtain⟨h1,h2,h3,h4⟩:=rj w xs ys A B;have h:=ai.new ((w.alloc (.cells xs A)).alloc (.cells ys B)) zs C;rw[h3]at h;exact⟨h1.alloc _,h2.alloc _,h,aB,h4.alloc cO _⟩
end Go.Proofs.YtfflljgnpfldfaaGreatDoor
