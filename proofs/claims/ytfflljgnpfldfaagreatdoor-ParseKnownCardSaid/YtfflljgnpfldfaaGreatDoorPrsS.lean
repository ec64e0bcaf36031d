/-
  parse.File: contract. (Printed by gen_prss.py.)
-/
import Derived.Test.YtfflljgnpfldfaaGreatDoorPrsQ
set_option linter.all false
set_option maxHeartbeats 128000000
set_option maxRecDepth 100000
namespace Go.Proofs.YtfflljgnpfldfaaGreatDoor
open Go.Proofs.Tryz
open Go.RowKit
theorem arl (v:Value) (xT:TypeId) (w:World):(Instr.typeAssert (.iface 102 v) xT 102 true).run prog w=.ok (.tuple #[v,.bool true]) w:=by
 unfold Instr.typeAssert;simp only[rT,run_underlying underlying102,Result.andThen];simp
theorem ahc {P:Program} {c:Code} {Q:Exit→Act→World→Prop} {w:World} {t t':Array Value} {ds:List Deferred} (e:t=t') (h:c.wp P Q { tmps:=t',defers:=ds } w):c.wp P Q { tmps:=t,defers:=ds } w:=e ▸ h
def ahd (k1 k2:Nat) (F:Value) (w:World) (e:Exit) (a:Act) (w':World):Prop:=
 e=.normal∧a.defers=[]∧ai w' k1 #[.slice none 0 0]∧ai w' k2 #[F]∧∀ (B:Nat) (w0:World),Below B w0 w→B≤k1→B≤k2→Below B w0 w'
theorem ahe (k1 k2:Nat) (w:World) :
  CallsD prog 34 #[.pointer (some ⟨k1,0,none⟩),.pointer (some ⟨k2,0,none⟩)] .returning w fun e u' w'=>e=.returned (.tuple #[])∧u' = .returning∧w' = w:=by
 refine callsD_of_wpS func34 rfl fun ahf cs hu=>?_
 apply wpS_seq;apply wpS_region;simp[wpOpsS,go_sem,recoverD,hu,ntmps34,Exit.thenS];refine wpS_of_wp (ahc (t':=#[.pointer (some ⟨k1,0,none⟩),.pointer (some ⟨k2,0,none⟩),.nilIface,undef,undef,.nilIface,undef,undef,undef,undef,undef,undef,undef,undef,undef,undef,undef,undef]) rfl (wp_mono (Q:=fun e a w'=>e=.normal∧a.defers=[]∧w' = w) ?_ ?_))
 ·go_wp2_with fail
 ·rintro e a w' ⟨rfl,ha,rfl⟩;cases ahf
  simp_all [bodyPostS,results,results34]
theorem ahg (k1 k2:Nat) (hne:k1≠k2) (x0 x1:Value) (no l c:Int) (ahh:List PanicEntry) (w:World) (h1:ai w k1 #[x0]) (h2:ai w k2 #[x1]) :
  CallsD prog 34 #[.pointer (some ⟨k1,0,none⟩),.pointer (some ⟨k2,0,none⟩)] (.panicking ({ v:=eH no l c,recovered:=false } :: ahh)) w fun e u' w'=>
   e=.returned (.tuple #[])∧u' = .panicking ({ v:=eH no l c,recovered:=true } :: ahh)∧ai w' k1 #[.slice none 0 0]∧ai w' k2 #[eH no l c]∧∀ (B:Nat) (w0:World),Below B w0 w→B≤k1→B≤k2→Below B w0 w':=by
 refine callsD_of_wpS func34 rfl fun ahf cs hu=>?_
 apply wpS_seq;apply wpS_region;simp[wpOpsS,go_sem,recoverD,hu,ntmps34,Exit.thenS];refine wpS_of_wp (ahc (t':=#[.pointer (some ⟨k1,0,none⟩),.pointer (some ⟨k2,0,none⟩),eH no l c,undef,undef,eH no l c,undef,undef,undef,undef,undef,undef,undef,undef,undef,undef,undef,undef]) rfl (wp_mono (Q:=ahd k1 k2 (eH no l c) w) ?_ ?_))
 ·unfold eH;have hff:=arl;generalize hQ:ahd k1 k2 _ w=Q;go_upto_region 5 with fail
  subst hQ;have nb0:=ai.new w #[.int .i64 no,.int .i64 l,.int .i64 c] 102;have hb0:Below w.heap.size w (w.alloc (.cells #[.int .i64 no,.int .i64 l,.int .i64 c] 102)):=(aC _ _).alloc af _;have h1k:=h1.lt;have h2k:=h2.lt;have h1':=h1.keep hb0 af;have h2':=h2.keep hb0 af;clear h1 h2;generalize Tf:w.heap.size=kf at *;generalize w.alloc (.cells #[.int .i64 no,.int .i64 l,.int .i64 c] 102)=W at *;have nb:ai W.drew kf #[.int .i64 no,.int .i64 l,.int .i64 c]:=nb0;have a1:ai W.drew k1 #[x0]:=h1';have a2:ai W.drew k2 #[x1]:=h2';have Tg:=nb.other (a:=⟨k1,0,none⟩) (show k1≠kf by omega) (.slice none 0 0);have a3:=a2.other (a:=⟨k1,0,none⟩) (show k1≠k2 from hne) (.slice none 0 0);have b5:=h2'.cell 0 x1 rfl;have b6:=h2'.free 0;have b51:=h1'.cell 0 x0 rfl;have b61:=h1'.free 0;have QD:¬ k2=k1:=Ne.symm hne;have ahi:¬ k1=k2:=hne;have ZW:=Tg.other (a:=⟨k2,0,none⟩) (show k2≠kf by omega) (.iface 102 (.agg #[.int .i64 no,.int .i64 l,.int .i64 c]));have f1:=(a1.put 0 (.slice none 0 0)).other (a:=⟨k2,0,none⟩) (show k2≠k1 from Ne.symm hne) (.iface 102 (.agg #[.int .i64 no,.int .i64 l,.int .i64 c]));have f2:=a3.put 0 (.iface 102 (.agg #[.int .i64 no,.int .i64 l,.int .i64 c]));refine aY f1 f2 hb0 ?_;intro F1 F2 dS;clear f1 f2 hb0 nb0 h1' h2' a1 a2 a3;refine xt (S:=(fun (w':World)=>w'.cell? ⟨kf,0,none⟩=some (.int .i64 no)∧w'.cell? ⟨kf,1,none⟩=some (.int .i64 l)∧w'.cell? ⟨kf,2,none⟩=some (.int .i64 c))) aj ⟨nb.cell 0 _ rfl,nb.cell 1 _ rfl,nb.cell 2 _ rfl⟩ (fun hHeld=>?_);refine oA 0 (v:=?_) rfl aj aj aj (fun _ _ _ h=>h) ot ?_ ?_;rotate_left
  ·exact abb
  refine aL ?_
  refine oA 1 (v:=?_) rfl aj aj aj (fun _ _ _ h=>h) ot ?_ ?_;rotate_left
  ·exact abb
  refine aL ?_
  refine jS 2 rfl aj (fun K hK=>?_);go_simp;clear hHeld;refine hK.o _ _ ?_ (fun hHeld=>?_)
  ·exact⟨Tg.cell 0 _ rfl,Tg.cell 1 _ rfl,Tg.cell 2 _ rfl⟩
  clear hK K;refine Lo ?_;intro K hK
  go_simp;clear hHeld;refine hK.o _ _ ?_ (fun hHeld=>?_)
  ·exact⟨ZW.cell 0 _ rfl,ZW.cell 1 _ rfl,ZW.cell 2 _ rfl⟩
  clear hK K;refine wS ?_
  refine⟨rfl,rfl,F1.o,F2.o,fun B w0 hB h1 h2=>?_⟩;have hs:=hB.size;exact((hB.trans ((dS.o.drew).mono ae)).setCell (p:=⟨k1,0,none⟩) h1 _).setCell (p:=⟨k2,0,none⟩) h2 _
 ·rintro e a w' ⟨rfl,ha,hb,hc,hd⟩;refine⟨ha,_,rfl,.tuple #[],?_,rfl,rfl,hb,hc,hd⟩;simp[results,results34]
open Go.RowKit Go.Shelf
def arn (w:World) (R:aea) (e:Ending) (w':World):Prop:=match R with
 | .bad v=>e=.returned (.tuple #[.slice none 0 0,v])∧Below w.heap.size w w'
 | .good l=>∃ (v:Value) (T:List (aX×Nat×Nat)),e=.returned (.tuple #[v,.nilIface])∧aZ w' w.heap.size 98 qa 1 v T∧T.map Prod.fst=l∧fK w.heap.size T w'.heap.size∧Below w.heap.size w w'
structure eR (w:World):Prop where
 tab:xP w
 pow:ng w
 sen:rB w
 Jl:w.cell? ⟨0,0,none⟩=some (.iface 238 (.agg #[.pointer (some ⟨9,54,none⟩)]))
theorem eR.keep {w w':World} (h:eR w) (hb:Below w.heap.size w w'):eR w':=⟨h.tab.keep hb,h.pow.keep hb,h.sen.keep hb,dx h.Jl hb⟩
theorem Th {tmps:Array Value} {R:Ending→World→Prop} {W:World} {k1 k2:Nat} {x0 x1:Value} (h2:(tmps[2]?).getD undef=.pointer (some ⟨k1,0,none⟩)) (h3:(tmps[3]?).getD undef=.pointer (some ⟨k2,0,none⟩)) (b0:ai W k1 #[x0]) (b1:ai W k2 #[x1]) (hR:R (.returned (.tuple #[x0,x1])) W) :
  Leaves prog Tryz.f19 tmps R [] .returning W:=by
 have c0:=b0.cell 0 x0 rfl;have c1:=b1.cell 0 x1 rfl;refine⟨.tuple #[x0,x1],?_,hR⟩;simp[results,results19,go_sem,h2,h3,c0,c1]
theorem Jk (s:List UInt8) (hs:s.length≤9223372036854775807) (w:World) (hW:eR w) :
  Calls prog 19 #[.string ⟨s.toArray⟩] w fun e w'=>arn w (jX s) e w':=by
 obtain⟨R,hR⟩:∃ R,R=jX s:=⟨_,rfl⟩
 rw[← hR];unfold jX at hR;have hmf:∀ (fn:Fn) (first cap:Array Value) (w:World),(Instr.makeFunc fn first cap).run prog w=.ok (.func fn first cap) w:=fun _ _ _ _=>rfl
 have h0:=ai.new w #[.slice none 0 0] 52;have dC:Below w.heap.size w (w.alloc (.cells #[.slice none 0 0] 52)):=(aC _ _).alloc af _;have h1:=ai.new (w.alloc (.cells #[.slice none 0 0] 52)) #[.nilIface] 54;rw[jW]at h1;have gh:Below w.heap.size w ((w.alloc (.cells #[.slice none 0 0] 52)).alloc (.cells #[.nilIface] 54)):=dC.alloc (by rw[jW];omega) _;have kh:=h0.alloc (.cells #[.nilIface] 54);have ahj:((w.alloc (.cells #[.slice none 0 0] 52)).alloc (.cells #[.nilIface] 54)).heap.size=w.heap.size+2:=(by rw[jW,jW]);have aro:=hW.Jl;have arp:=hW.pow;have arq:=hW.sen;have k0:=dK w (.cells #[.slice none 0 0] 52);have K0:=Qh (bF k0 ((aC _ _).alloc af (.cells #[.nilIface] 54)));have k1:=dK (w.alloc (.cells #[.slice none 0 0] 52)) (.cells #[.nilIface] 54);rw[jW]at k1;have K1:=Qh k1;clear k0 k1;have rA:=Qh ahj;clear h0 dC ahj;refine fx gh (hW.keep gh) kh h1 ?_;clear h1 gh kh hW;intro HB HW H0 H1;go_enter_defers func19,ntmps19
 go_wp2_with fail;generalize (w.alloc (.cells #[.slice none 0 0] 52)).alloc (.cells #[.nilIface] 54)=W0 at *;have cs:=ant s hs W0 HW.o.tab;cases Ky:gB s with
 | bad V=>
  rw[Ky]at cs hR;have HV:=Qh (show R=.bad V from hR);unfold WT at cs;clear hR;have HF:=alI Ky;obtain⟨T0,d0,hVE⟩:=adV Ky;subst hVE;refine aQ cs ?_;intro W1 hb;have a0:=H0.o.keep hb af;have a1:=H1.o.keep hb af;have bX:=Qh (aH HB.o hb (by have:=rA.o;omega));have rY:=Qh (HW.o.keep hb);have Ae:=Qh (show w.heap.size+2≤W1.heap.size by have:=hb.size;have:=rA.o;omega);have c1:=a1.cell 0 .nilIface rfl;have r1:=a1.free 0;have hle:w.heap.size≤w.heap.size+1:=Nat.le_succ _;have b0:=a0.other (a:=⟨w.heap.size+1,0,none⟩) (show w.heap.size+1≠w.heap.size by omega) (.iface T0 d0);have b1:ai (W1.setCell ⟨w.heap.size+1,0,none⟩ (.iface T0 d0)) (w.heap.size+1) #[.iface T0 d0]:=a1.put 0 (.iface T0 d0);have BX:Below w.heap.size w (W1.setCell ⟨w.heap.size+1,0,none⟩ (.iface T0 d0)):=bX.o.setCell (p:=⟨w.heap.size+1,0,none⟩) hle (.iface T0 d0);have BI:(W1.setCell ⟨w.heap.size+1,0,none⟩ (.iface T0 d0)).heap.size=W1.heap.size:=pR;have jM:(W1.setCell ⟨w.heap.size+1,0,none⟩ (.iface T0 d0)).cell? ⟨0,0,none⟩=some (.iface 238 (.agg #[.pointer (some ⟨9,54,none⟩)])):=by
   have h1:=HW.o.Jl;have hlt:0 < w.heap.size:=Iz w _ aro;rw[World.cell?_setCell_other _ _ _ _ (fun e=>by have:=jA Addr.block e;simp only at this;omega)];exact rY.o.Jl
  refine aY b0 b1 BX ?_;intro B0 B1 aM;have qC:=Qh (show w.heap.size+2≤(W1.setCell ⟨w.heap.size+1,0,none⟩ (.iface T0 d0)).heap.size by rw[BI];exact Ae.o);have HOV:=Qh jM;clear cs hb a0 a1 b0 b1 BX BI jM;go_upto_region 3 with fail
  clear c1 r1;generalize W1.setCell ⟨w.heap.size+1,0,none⟩ (.iface T0 d0)=W2 at *;have nf:=ai.new W2 #[.int .i64 0,.int .i64 0,.int .i64 0] 102;have sr:Below W2.heap.size W2 (W2.alloc (.cells #[.int .i64 0,.int .i64 0,.int .i64 0] 102)):=(aC _ _).alloc af _;have c0:=B0.o.keep sr af;have c1:=B1.o.keep sr af;have C0:=Qh c0;have C1:=Qh c1;have bT:=Qh (aH aM.o sr (by have:=qC.o;omega));have HE3:=Qh (dx HOV.o sr);have avz:=qC.o;clear sr c0 c1;go_upto_region 4 with fail
  generalize Tf:W2.heap.size=kf at *;generalize W2.alloc (.cells #[.int .i64 0,.int .i64 0,.int .i64 0] 102)=W3 at *;have d1:=C1.o.cell 0 (.iface T0 d0) rfl;have NF:=Qh nf;clear nf Tf;rcases HF with hF|⟨no,l,c,hF,gA,wj⟩
  ·unfold dE at hF;injection hF with ZX hF2
   subst ZX hF2;have ca:=acY 5 ⟨kf,0,none⟩ W3 HE3.o;go_wp2_with fail;refine aQ ca ?_;intro W4 hb;have e0:=C0.o.keep hb af;have e1:=C1.o.keep hb af;have fe:=Qh (aH bT.o hb ae);have f1:=e1.cell 0 (.iface 100 (.int .i64 5)) rfl;have g1:=e1.free 0;have f0:=e0.cell 0 (.slice none 0 0) rfl;have g0:=e0.free 0;have ahi:¬ w.heap.size+1=w.heap.size:=ae;have QD:¬ w.heap.size=w.heap.size+1:=ae;have q1:ai (W4.drew.setCell ⟨w.heap.size,0,none⟩ (.slice none 0 0)) (w.heap.size+1) #[.iface 100 (.int .i64 5)]:=(show ai W4.drew _ _ from e1).other (a:=⟨w.heap.size,0,none⟩) (show w.heap.size≠w.heap.size+1 by omega) (.slice none 0 0);have q2:ai ((W4.drew.setCell ⟨w.heap.size,0,none⟩ (.slice none 0 0)).setCell ⟨w.heap.size+1,0,none⟩ (.iface 100 (.int .i64 5))) (w.heap.size+1) #[.iface 100 (.int .i64 5)]:=q1.put 0 (.iface 100 (.int .i64 5));have q3:ai ((W4.drew.setCell ⟨w.heap.size,0,none⟩ (.slice none 0 0)).setCell ⟨w.heap.size+1,0,none⟩ (.iface 100 (.int .i64 5))) w.heap.size #[.slice none 0 0]:=((show ai W4.drew _ _ from e0).put 0 (.slice none 0 0)).other (a:=⟨w.heap.size+1,0,none⟩) (show w.heap.size+1≠w.heap.size by omega) _;refine aY (show Below w.heap.size w ((W4.drew.setCell ⟨w.heap.size,0,none⟩ (.slice none 0 0)).setCell ⟨w.heap.size+1,0,none⟩ (.iface 100 (.int .i64 5)))from (fe.o.drew.setCell (p:=⟨w.heap.size,0,none⟩) af _).setCell (p:=⟨w.heap.size+1,0,none⟩) hle _) q2 q3 ?_;intro ir Q2 Q3;clear ca hb d1 q3;go_wp2_with fail;go_region_with fail
   all_goals
    go_wp2_with fail;refine OD ?_;refine(ahe w.heap.size (w.heap.size+1) _).mono ?_;rintro e u' w'' ⟨rfl,rfl,rfl⟩;refine Th (x0:=.slice none 0 0) (x1:=.iface 100 (.int .i64 5)) rfl rfl Q3.o Q2.o ?_;rw[HV.o];exact⟨rfl,ir.o⟩
  ·unfold eH at hF;injection hF with ZX hF2
   subst ZX hF2;have ca:=ac0 no l c kf _ _ _ W3 NF.o HE3.o;unfold eH at ca;go_wp2_with fail;refine dF ca ?_;intro W4 hf hb;have hb1:=hb (w.heap.size+2) ae;have e0:ai W4 w.heap.size #[.slice none 0 0]:=by
    obtain⟨T9,h9⟩:=C0.o;exact⟨T9,(hb1.block _ ae).trans h9⟩
   have e1:ai W4 (w.heap.size+1) #[.iface 102 (.agg #[.int .i64 no,.int .i64 l,.int .i64 c])]:=by
    obtain⟨T9,h9⟩:=C1.o;exact⟨T9,(hb1.block _ ae).trans h9⟩
   have fe:=Qh (bT.o.trans (hb1.mono ae));obtain⟨g0,g1,g2,-,-,-⟩:=hf.three;have ZY:=Qh e0;have Ds:=Qh e1;clear hb hb1 ca hf e0 e1 d1;go_wp2_with fail;refine OD ?_;refine(ahg w.heap.size (w.heap.size+1) ae _ _ no l c [] _ ZY.o Ds.o).mono ?_;rintro e u' w'' ⟨rfl,rfl,q0,q1,gh⟩;refine Th rfl rfl q0 q1 ?_;rw[HV.o];exact⟨rfl,gh _ _ fe.o af hle⟩
 | good ts=>
  have lh:=Mu Ky;rw[Ky]at cs hR;simp only at hR;have Eg:=Qh hR;unfold WT at cs;clear hR Ky;refine aI cs ?_;rintro e W1 ⟨a,cp,rfl,ho,hb⟩;have bX:=Qh (aH HB.o hb (by have:=rA.o;omega));have Ae:=Qh (show w.heap.size+2≤W1.heap.size by have:=hb.size;have:=rA.o;omega);have k0:=bF K0.o hb;have k1:=bF K1.o hb;have c1:=ai.cell ⟨_,k1⟩ 0 .nilIface rfl;have r1:=ai.free ⟨_,k1⟩ 0;have hle:w.heap.size≤w.heap.size+1:=Nat.le_succ _;have BX:Below w.heap.size w (W1.setCell ⟨w.heap.size+1,0,none⟩ .nilIface):=bX.o.setCell (p:=⟨w.heap.size+1,0,none⟩) hle .nilIface;have BI:(W1.setCell ⟨w.heap.size+1,0,none⟩ .nilIface).heap.size=W1.heap.size:=pR;have Kz:=Qh (dH k0 (show w.heap.size≠w.heap.size+1 by omega) 0 .nilIface);have Ha:=Qh (bJ k1 0 .nilIface);have kn:=Qh (ho.dn ah k1 (fun b _ hne=>dN _ ⟨w.heap.size+1,0,none⟩ .nilIface b hne));have aM:=Qh BX;have qC:=Qh (show w.heap.size+2≤(W1.setCell ⟨w.heap.size+1,0,none⟩ .nilIface).heap.size by rw[BI];exact Ae.o);clear cs hb k0 k1 BX BI ho;go_upto_region 3 with fail
  clear c1 r1;generalize W1.setCell ⟨w.heap.size+1,0,none⟩ .nilIface=W2 at *;have sr:Below W2.heap.size W2 (W2.alloc (.cells #[.int .i64 0,.int .i64 0,.int .i64 0] 102)):=(aC _ _).alloc af _;refine aY (bF Kz.o sr) (bF Ha.o sr) (kn.o.keep sr af) ?_;intro Kz Ha kn;have bT:=Qh (aH aM.o sr (by have:=qC.o;omega));have DU:=Qh (bQ qC.o sr.size);clear sr;go_upto_region 4 with fail
  generalize Tf:W2.heap.size=kf at *;clear Tf;generalize W2.alloc (.cells #[.int .i64 0,.int .i64 0,.int .i64 0] 102)=W3 at *;have d1:=ai.cell ⟨_,Ha.o⟩ 0 .nilIface rfl;have ca:=ajo (.iface 108 (.pointer (some ⟨kf,0,none⟩))) W3;have oh:Below W3.heap.size W3 (W3.alloc (.cells #[.slice a ts.length cp] 111)):=(aC _ _).alloc af _;have Kz:=Qh (bF Kz.o oh);have Ha:=Qh (bF Ha.o oh);have fe:=Qh (aH bT.o oh (by have:=DU.o;omega));have iQ:∃ a' c',Value.slice a ts.length cp=.slice a' ts.length c'∧bA W3 bZ 4 a' c' ts:=kn.o.shape;have ahk:bH (W3.alloc (.cells #[.slice a ts.length cp] 111)) W3.heap.size ts:=by
   obtain⟨a',c',e,hs⟩:=iQ;injection e with e1 e2 e3
   subst e1 e3;refine⟨a,cp,dK W3 _,hs.keep oh af,fun b o e=>?_⟩;have:=(kn.o.lt b lD).2;exact this
  have HP:=Qh ahk;have ahl:(W3.alloc (.cells #[.slice a ts.length cp] 111)).heap.size=W3.heap.size+1:=jW _ _;have gD:=Qh ahl;have Aw:w.heap.size+2≤W3.heap.size:=DU.o;clear oh iQ ahk ahl;go_wp2_with fail;refine aI ca ?_;rintro e W4 ⟨rfl,rfl⟩;clear ca;go_upto_region 9 with fail
  clear d1;generalize W4.alloc (.cells #[.slice a ts.length cp] 111)=W5 at *;generalize W4.heap.size=kp at *;have cS:=ara ts lh kp W5 HP.o (fun W hW=>⟨arp.keep (aA.below fe.o hW af ae),arq.keep (aA.below fe.o hW af ae)⟩);cases hX:zY ts with
  | bad no l c=>
   rw[hX]at cS;unfold ZJ at cS;have HV:=Qh (show R=.bad (eH no l c)by rw[Eg.o,hX]);clear hX;go_wp2_with fail;refine aQ cS ?_;intro W6 ho;have ZY:=Qh (eJ Kz.o ae ho);have Ds:=Qh (eJ Ha.o ae ho);have mg:=Qh (aA.below fe.o ho af ae);clear cS ho;go_wp2_with fail;refine OD ?_;refine(ahg w.heap.size (w.heap.size+1) ae _ _ no l c [] _ ⟨_,ZY.o⟩ ⟨_,Ds.o⟩).mono ?_;rintro e u' w'' ⟨rfl,rfl,q0,q1,gh⟩;refine Th rfl rfl q0 q1 ?_;rw[HV.o];exact⟨rfl,gh _ _ mg.o af hle⟩
  | ok l tz=>
   rw[hX]at cS;unfold ZJ at cS;have HV:=Qh (show R=.good l by rw[Eg.o,hX]);clear hX;go_wp2_with fail;refine aI cS ?_;rintro e W6 ⟨v,T,rfl,hown,Ej,hch,ho⟩;obtain⟨a5,n5,c5,mG⟩:∃ a n c,v=.slice a n c:=by obtain⟨a5,c5,e,-⟩:=hown.shape;exact⟨_,_,_,e⟩
   subst mG;have k0:=eJ Kz.o ae ho;have k1:=eJ Ha.o ae ho;have mg:=Qh (aA.below fe.o ho af ae);have hs5:w.heap.size≤W5.heap.size:=fe.o.size;have f0:=ai.cell ⟨_,k0⟩ 0 (.slice none 0 0) rfl;have g0:=ai.free ⟨_,k0⟩ 0;have f1:=ai.cell ⟨_,k1⟩ 0 .nilIface rfl;have g1:=ai.free ⟨_,k1⟩ 0;have ahi:¬ w.heap.size+1=w.heap.size:=ae;have QD:¬ w.heap.size=w.heap.size+1:=ae;have m0:=bJ k0 0 (.slice a5 n5 c5);have m1:=dH k1 (show w.heap.size+1≠w.heap.size by omega) 0 (.slice a5 n5 c5);have o1:=hown.dn ah (tZ ah ah ah) k0 pR (fun b _ hne=>dN W6 ⟨w.heap.size,0,none⟩ (.slice a5 n5 c5) b hne);have o2:=o1.dn ah (tZ ah ah ah) m1 pR (fun b _ hne=>dN (W6.setCell ⟨w.heap.size,0,none⟩ (.slice a5 n5 c5)) ⟨w.heap.size+1,0,none⟩ .nilIface b hne);refine aY (dH m0 (show w.heap.size≠w.heap.size+1 by omega) 0 .nilIface) (bJ m1 0 .nilIface) (o2.fU hs5) ?_;intro Q0 Q1 aU;refine aY (show fK w.heap.size T ((W6.setCell ⟨w.heap.size,0,none⟩ (.slice a5 n5 c5)).setCell ⟨w.heap.size+1,0,none⟩ .nilIface).heap.size from (hch.low hs5).mono pR) (show Below w.heap.size w ((W6.setCell ⟨w.heap.size,0,none⟩ (.slice a5 n5 c5)).setCell ⟨w.heap.size+1,0,none⟩ .nilIface)from (mg.o.setCell (p:=⟨w.heap.size,0,none⟩) af _).setCell (p:=⟨w.heap.size+1,0,none⟩) hle _) Ej ?_;intro rH nG HTL;clear cS ho hown Ej hch k0 k1 m0 m1 o1 o2;go_wp2_with fail;refine OD ?_;refine(ahe w.heap.size (w.heap.size+1) _).mono ?_;rintro e u' w'' ⟨rfl,rfl,rfl⟩;refine Th rfl rfl ⟨_,Q0.o⟩ ⟨_,Q1.o⟩ ?_;rw[HV.o];exact⟨_,T,rfl,aU.o,HTL.o,rH.o,nG.o⟩
end Go.Proofs.YtfflljgnpfldfaaGreatDoor
