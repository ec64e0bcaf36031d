/-
  The reference's reader: the table: contract. (Printed by gen_redk.py.)
-/
import Derived.Test.YtlacjhjckkablaaGreatDoorBaseD
import Derived.Test.YtlacjhjckkablaaGreatDoorRedI
import Derived.Test.YtlacjhjckkablaaGreatDoorCopC
set_option maxHeartbeats 128000000
set_option linter.unusedVariables false
namespace Go.Proofs.YtlacjhjckkablaaGreatDoor
open Go.Proofs.Tryz
open Go.RowKit
def msgX0:MsgD:=⟨0,0,0,false,[],0,[],[]⟩
def MgPost (kr:Nat) (w:World) (T:List TokD) (R:MsgD×RSt) (e:Ending) (w':World):Prop:=
 ∃ (x:MsgD) (C:Array Value),e=.returned (.agg C)∧fdMsgN w.heap.size w' x C.toList∧Only kr w w'∧RAt w' kr T R.2∧(R.2.isOk→R.1=x)
theorem RAt.kind {w:World} {kr:Nat} {T:List TokD} {st:RSt} (h:RAt w kr T st):∃ C,w.heap[kr]? = some (.cells C 100):=by
 cases st with
 | ok ts=>obtain⟨i,h1,h2,a,cap,h3,-⟩:=h;exact⟨_,h3⟩
 | bad n l c=>obtain⟨h0,i,h1,a,cap,h3,-⟩:=h;exact⟨_,h3⟩
theorem run_sgs_stop {β:Type} {st:RSt} {f:Nat} {l:List SigX} (d:β) (KF:List SigX→List TokD→PR β) (hf:∀ ts,st=.ok ts→1≤f) (h:∀ ts,st=.ok ts→seesB [83,71,95] ts=false):st.run d (fun ts=>(sgsF f l ts).bind KF)=st.run d (KF l):=by
 cases st with
 | bad n l c=>rfl
 | ok ts=>
  obtain⟨f',rfl⟩:∃ f',f=f' + 1:=⟨f - 1,by have:=hf ts rfl;omega⟩
  unfold RSt.run;simp only;rw[show sgsF (f' + 1) l ts=.ok l ts by unfold sgsF;rw[if_neg (by rw[h ts rfl];decide)]];rfl
theorem run_sgs_many {β:Type} {ts:List TokD} {f:Nat} {l:List SigX} (d:β) (KF:List SigX→List TokD→PR β) (h:seesB [83,71,95] ts=true) (hl:l.length=64):(RSt.ok ts).run d (fun ts=>(sgsF (f+1) l ts).bind KF)=(d,(RSt.ok ts).wrong 5):=by
 unfold RSt.run;simp only;rw[show sgsF (f+1) l ts=wrongR 5 ts by unfold sgsF;rw[if_pos h,if_pos hl]];rfl
theorem run_sgs_go {β:Type} {ts:List TokD} {f:Nat} {l:List SigX} (d:β) (KF:List SigX→List TokD→PR β) (h:seesB [83,71,95] ts=true) (hl:l.length≠64) (x:SigX) (hx:((RSt.ok ts).run sigX0 sigR).2.isOk→((RSt.ok ts).run sigX0 sigR).1=x) :
  (RSt.ok ts).run d (fun ts=>(sgsF (f+1) l ts).bind KF)=((RSt.ok ts).run sigX0 sigR).2.run d (fun tz=>(sgsF f (l++[x]) tz).bind KF):=by
 have ht:sgsF (f+1) l ts=(sigR ts).bind fun x ts'=>sgsF f (l++[x]) ts':=by
  conv=>lhs;unfold sgsF
  rw[if_pos h,if_neg hl]
 cases hn:sigR ts with
 | ok y t=>
  have e:(RSt.ok ts).run sigX0 sigR=(y,.ok t):=by
   unfold RSt.run;simp only;rw[hn]
  rw[e]at hx ⊢;have hy:y=x:=hx trivial;subst hy;unfold RSt.run;simp only;rw[ht,hn];rfl
 | bad a b c=>
  have e:(RSt.ok ts).run sigX0 sigR=(sigX0,.bad a b c):=by
   unfold RSt.run;simp only;rw[hn]
  rw[e];unfold RSt.run;simp only;rw[ht,hn];rfl
set_option maxRecDepth 100000 in theorem red_message (T : List TokD) (hT : TsW T) (st : RSt) (kr : Nat) (w : World) (h : RAt w kr T st) :
  Calls prog 30 #[.pointer (some ⟨kr,0,none⟩)] w fun e w'=>MgPost kr w T (st.run msgX0 messageR) e w':=by
 have hpos:=hT.b.1.pos;have hlen:=hT.b.2.2;obtain⟨R,hR⟩:∃ R,R=st.run msgX0 messageR:=⟨_,rfl⟩
 rw[← hR];unfold messageR at hR;have HR:=Qh hR;clear hR;have hkw:=h.lt;have hb0:Below w.heap.size w (w.alloc (.cells zeroMsgD 77)):=(Below.refl _ _).alloc lrf _;have HO:=Qh (Only.of_below kr hb0);have HP:=Qh (h.keep hb0);have HZ:=Qh (heap_alloc_new w (.cells zeroMsgD 77));have hf2:=tk_f2;have hf0:=tk_f0;obtain⟨i,no,l0,c0,hi,hri,hhd⟩:=HP.out.head;have cn:=red_now T hpos hlen i no l0 c0 kr _ hi hri;unfold tkV enTok at cn;have HMA:=Qh (run_must_at st [66,79,95] i T hhd);generalize hdT T i=t0 at *;clear hb0 h hri hhd;go_enter func30,ntmps30
 go_wp2_with fail;(with_reducible refine cn.mono ?_);rintro e W1 ⟨rfl,hb⟩;have HZ:=Qh (kind_at HZ.out hb);have HO:=Qh (HO.out.trans (Only.of_below kr hb));have HP:=Qh (HP.out.keep hb);clear cn hb;obtain⟨C0,hC0⟩:∃ C,C=(⟨t0.line,t0.col,0,false,[],0,[],[]⟩:MsgD).cells (.slice none 0 0):=⟨_,rfl⟩
 have HC0:=Qh hC0;have sC0:C0.size=8:=(by rw[hC0];rfl);have uC0:C0.all (·.oneCell')=true:=(by rw[hC0];exact MsgD.cells_one _ _ _ _);clear hC0;go_upto_region 2 with (refine wpList_newS (Z:=zeroMsgD) (cs:=C0) 77 (.tmp 3) (.tmp 9) (by rw[sC0];exact msg_zero) (by rw[sC0];rfl) uC0 ?_ (hy:=by rw[HC0.out];rfl))
 have hbn:Below W1.heap.size W1 (W1.alloc (.cells C0 77)):=(Below.refl _ _).alloc lrf _;have hkz:w.heap.size < W1.heap.size:=(gE HZ.out)
 have hks:w.heap.size≤W1.heap.size:=Nat.le_of_lt hkz;have hkks:kr < W1.heap.size:=(by omega);have HC:=Qh (show(W1.alloc (.cells C0 77)).heap[W1.heap.size]? = some (.cells ((⟨t0.line,t0.col,0,false,[],0,[],[]⟩:MsgD).cells (.slice none 0 0)) 77)by rw[← HC0.out];exact heap_alloc_new W1 _);have HZ:=Qh (kind_at HZ.out hbn);have HO:=Qh (HO.out.trans (Only.of_below kr hbn));have HP:=Qh (HP.out.keep hbn);clear hbn;generalize hkk:W1.heap.size=ks at *;generalize W1.alloc (.cells C0 77)=W2 at *;have cc:=red_must 1 [66,79,95] ⟨_,_,rfl,.inl ⟨rfl,by decide⟩⟩ T hT st kr _ HP.out;have hr:=HR.out;rw[run_bind st tok0 msgX0 (mustR [66,79,95])]at hr;try dsimp only at hr
 have hma:=HMA.out;obtain⟨t,hx⟩:∃ x,x=(st.run tok0 (mustR [66,79,95])).1:=⟨_,rfl⟩
 obtain⟨s1,hs⟩:∃ s,s=(st.run tok0 (mustR [66,79,95])).2:=⟨_,rfl⟩
 rw[← hs]at hr;try rw[← hx]at hr
 rw[← hs,← hx]at hma;have HMA:=Qh hma;have HBACK:=Qh (fun (h:R.2.isOk)=>run_isOk (by rw[hr]at h;exact h));clear hma;rw[← hs]at cc;try rw[← hx]at cc
 have HR:=Qh hr;clear hr hx hs;go_wp2_with fail;(with_reducible refine cc.mono ?_);rintro e W3 ⟨rfl,ho,hp⟩;have HZ:=Qh (kind_only HZ.out (by omega) ho);have HC:=Qh (kind_only HC.out (by omega) ho);have HO:=Qh (HO.out.trans ho);have HP:=Qh hp;clear cc ho hp;have cc:=red_id T hT s1 kr _ HP.out;have hr:=HR.out;rw[run_bind s1 (0,false) msgX0 (idR)]at hr;try dsimp only at hr
 obtain⟨ib,hx⟩:∃ x,x=(s1.run (0,false) (idR)).1:=⟨_,rfl⟩
 obtain⟨s2,hs⟩:∃ s,s=(s1.run (0,false) (idR)).2:=⟨_,rfl⟩
 rw[← hs]at hr;try rw[← hx]at hr
 rw[← hs]at cc;try rw[← hx]at cc
 have HR:=Qh hr;clear hr hx hs;go_wp2_with fail;(with_reducible refine cc.mono ?_);rintro e W4 ⟨rfl,ho,hp⟩;have HZ:=Qh (kind_only HZ.out (by omega) ho);have HC:=Qh (kind_only HC.out (by omega) ho);have HO:=Qh (HO.out.trans ho);have HP:=Qh hp;clear cc ho hp;have c2:=Blk.cell ⟨_,HC.out⟩ 2 (.int .u32 0) rfl;have r2:=Blk.free ⟨_,HC.out⟩ 2;have c3:=Blk.cell ⟨_,HC.out⟩ 3 (.bool false) rfl;have r3:=Blk.free ⟨_,HC.out⟩ 3;have f2_3:∀ v,(W4.setCell ⟨ks,2,none⟩ v).cell? ⟨ks,3,none⟩=some (.bool false):=fun v=>Blk.cell ⟨_,set_at HC.out 2 v⟩ 3 _ rfl
 have g2_3:∀ v,(W4.setCell ⟨ks,2,none⟩ v).frozen? ⟨ks,3,none⟩=false:=fun v=>Blk.free ⟨_,set_at HC.out 2 v⟩ 3
 have HC2:=Qh (show((W4.setCell ⟨ks,2,none⟩ (.int .u32 (ib.1:Nat))).setCell ⟨ks,3,none⟩ (.bool ib.2)).heap[ks]? = some (.cells ((⟨t0.line,t0.col,ib.1,ib.2,[],0,[],[]⟩:MsgD).cells (.slice none 0 0)) 77)from (set_at (set_at HC.out 2 (.int .u32 (ib.1:Nat))) 3 (.bool ib.2)));have HO2:=Qh (Only.new (Only.new HO.out ks hks 2 (.int .u32 (ib.1:Nat))) ks hks 3 (.bool ib.2));have HZ2:=Qh (set_ne (set_ne HZ.out (show w.heap.size≠ks by omega) 2 (.int .u32 (ib.1:Nat))) (show w.heap.size≠ks by omega) 3 (.bool ib.2));have HP2:=Qh (RAt.set (RAt.set HP.out hkks 2 (.int .u32 (ib.1:Nat))) hkks 3 (.bool ib.2));go_upto_region 4 with fail
 clear c2 r2 c3 r3;have HC:=HC2;have HO:=HO2;have HZ:=HZ2;have HP:=HP2;clear HC2 HO2 HZ2 HP2;generalize ((W4.setCell ⟨ks,2,none⟩ (.int .u32 (ib.1:Nat))).setCell ⟨ks,3,none⟩ (.bool ib.2))=W5 at *;have cc:=red_name T hT s2 kr _ HP.out;have hr:=HR.out;rw[run_bind s2 [] msgX0 (nameR)]at hr;try dsimp only at hr
 obtain⟨nm,hx⟩:∃ x,x=(s2.run [] (nameR)).1:=⟨_,rfl⟩
 obtain⟨s3,hs⟩:∃ s,s=(s2.run [] (nameR)).2:=⟨_,rfl⟩
 rw[← hs]at hr;try rw[← hx]at hr
 rw[← hs]at cc;try rw[← hx]at cc
 have HR:=Qh hr;clear hr hx hs;go_wp2_with fail;(with_reducible refine cc.mono ?_);rintro e W6 ⟨rfl,ho,hp⟩;have HZ:=Qh (kind_only HZ.out (by omega) ho);have HC:=Qh (kind_only HC.out (by omega) ho);have HO:=Qh (HO.out.trans ho);have HP:=Qh hp;clear cc ho hp;have c4:=Blk.cell ⟨_,HC.out⟩ 4 (.string ⟨#[]⟩) rfl;have r4:=Blk.free ⟨_,HC.out⟩ 4;have HC2:=Qh (show(W6.setCell ⟨ks,4,none⟩ (.string ⟨nm.toArray⟩)).heap[ks]? = some (.cells ((⟨t0.line,t0.col,ib.1,ib.2,nm,0,[],[]⟩:MsgD).cells (.slice none 0 0)) 77)from (set_at HC.out 4 (.string ⟨nm.toArray⟩)));have HO2:=Qh (Only.new HO.out ks hks 4 (.string ⟨nm.toArray⟩));have HZ2:=Qh (set_ne HZ.out (show w.heap.size≠ks by omega) 4 (.string ⟨nm.toArray⟩));have HP2:=Qh (RAt.set HP.out hkks 4 (.string ⟨nm.toArray⟩));go_upto_region 5 with fail
 clear c4 r4;have HC:=HC2;have HO:=HO2;have HZ:=HZ2;have HP:=HP2;clear HC2 HO2 HZ2 HP2;generalize (W6.setCell ⟨ks,4,none⟩ (.string ⟨nm.toArray⟩))=W7 at *;have cc:=red_must 4 [58] ⟨_,[],rfl,.inr ⟨rfl,by decide⟩⟩ T hT s3 kr _ HP.out;have hr:=HR.out;rw[run_bind s3 tok0 msgX0 (mustR [58])]at hr;try dsimp only at hr
 obtain⟨k1,hx⟩:∃ x,x=(s3.run tok0 (mustR [58])).1:=⟨_,rfl⟩
 obtain⟨s4,hs⟩:∃ s,s=(s3.run tok0 (mustR [58])).2:=⟨_,rfl⟩
 rw[← hs]at hr;try rw[← hx]at hr
 rw[← hs]at cc;try rw[← hx]at cc
 have HR:=Qh hr;clear hr hx hs;go_wp2_with fail;(with_reducible refine cc.mono ?_);rintro e W8 ⟨rfl,ho,hp⟩;have HZ:=Qh (kind_only HZ.out (by omega) ho);have HC:=Qh (kind_only HC.out (by omega) ho);have HO:=Qh (HO.out.trans ho);have HP:=Qh hp;clear cc ho hp;have cc:=red_whole31 T hT s4 kr _ HP.out;have hr:=HR.out;rw[run_bind s4 0 msgX0 (wholeR 2147483648)]at hr;try dsimp only at hr
 obtain⟨sz,hx⟩:∃ x,x=(s4.run 0 (wholeR 2147483648)).1:=⟨_,rfl⟩
 obtain⟨s5,hs⟩:∃ s,s=(s4.run 0 (wholeR 2147483648)).2:=⟨_,rfl⟩
 rw[← hs]at hr;try rw[← hx]at hr
 have hlt2:=run_whole_lt s4 2147483648 (by decide);rw[← hx]at hlt2;rw[← hs]at cc;try rw[← hx]at cc
 have HR:=Qh hr;clear hr hx hs;go_wp2_with fail;(with_reducible refine cc.mono ?_);rintro e W9 ⟨rfl,ho,hp⟩;have HZ:=Qh (kind_only HZ.out (by omega) ho);have HC:=Qh (kind_only HC.out (by omega) ho);have HO:=Qh (HO.out.trans ho);have HP:=Qh hp;clear cc ho hp;have c5:=Blk.cell ⟨_,HC.out⟩ 5 (.int .i64 0) rfl;have r5:=Blk.free ⟨_,HC.out⟩ 5;have HC2:=Qh (show(W9.setCell ⟨ks,5,none⟩ (.int .i64 (sz:Nat))).heap[ks]? = some (.cells ((⟨t0.line,t0.col,ib.1,ib.2,nm,sz,[],[]⟩:MsgD).cells (.slice none 0 0)) 77)from (set_at HC.out 5 (.int .i64 (sz:Nat))));have HO2:=Qh (Only.new HO.out ks hks 5 (.int .i64 (sz:Nat)));have HZ2:=Qh (set_ne HZ.out (show w.heap.size≠ks by omega) 5 (.int .i64 (sz:Nat)));have HP2:=Qh (RAt.set HP.out hkks 5 (.int .i64 (sz:Nat)));go_upto_region 7 with fail
 clear c5 r5;have HC:=HC2;have HO:=HO2;have HZ:=HZ2;have HP:=HP2;clear HC2 HO2 HZ2 HP2;generalize (W9.setCell ⟨ks,5,none⟩ (.int .i64 (sz:Nat)))=W10 at *;have cc:=red_name T hT s5 kr _ HP.out;have hr:=HR.out;rw[run_bind s5 [] msgX0 (nameR)]at hr;try dsimp only at hr
 obtain⟨sd,hx⟩:∃ x,x=(s5.run [] (nameR)).1:=⟨_,rfl⟩
 obtain⟨s6,hs⟩:∃ s,s=(s5.run [] (nameR)).2:=⟨_,rfl⟩
 rw[← hs]at hr;try rw[← hx]at hr
 rw[← hs]at cc;try rw[← hx]at cc
 have HR:=Qh hr;clear hr hx hs;go_wp2_with fail;(with_reducible refine cc.mono ?_);rintro e W11 ⟨rfl,ho,hp⟩;have HZ:=Qh (kind_only HZ.out (by omega) ho);have HC:=Qh (kind_only HC.out (by omega) ho);have HO:=Qh (HO.out.trans ho);have HP:=Qh hp;clear cc ho hp;have c6:=Blk.cell ⟨_,HC.out⟩ 6 (.string ⟨#[]⟩) rfl;have r6:=Blk.free ⟨_,HC.out⟩ 6;have HC2:=Qh (show(W11.setCell ⟨ks,6,none⟩ (.string ⟨sd.toArray⟩)).heap[ks]? = some (.cells ((⟨t0.line,t0.col,ib.1,ib.2,nm,sz,sd,[]⟩:MsgD).cells (.slice none 0 0)) 77)from (set_at HC.out 6 (.string ⟨sd.toArray⟩)));have HO2:=Qh (Only.new HO.out ks hks 6 (.string ⟨sd.toArray⟩));have HZ2:=Qh (set_ne HZ.out (show w.heap.size≠ks by omega) 6 (.string ⟨sd.toArray⟩));have HP2:=Qh (RAt.set HP.out hkks 6 (.string ⟨sd.toArray⟩));go_upto_region 8 with fail
 clear c6 r6;have HC:=HC2;have HO:=HO2;have HZ:=HZ2;have HP:=HP2;clear HC2 HO2 HZ2 HP2;generalize (W11.setCell ⟨ks,6,none⟩ (.string ⟨sd.toArray⟩))=W12 at *;obtain⟨KF,hKR,hKF⟩:∃ KF:List SigX→List TokD→PR MsgD,R=s6.run msgX0 (fun ts=>(sgsF ts.length [] ts).bind KF)∧KF=fun l ts=>.ok ⟨t.line,t.col,ib.1,ib.2,nm,sz,sd,l⟩ ts:=⟨_,HR.out,rfl⟩
 have HKF:=Qh hKF;obtain⟨fu,hfu1,hfu2⟩:∃ fu:Nat,(∀ ts,s6=.ok ts→ts.length≤fu∧0+ts.length≤T.length)∧R=s6.run msgX0 (fun ts=>(sgsF fu [] ts).bind KF):=by
  cases s6 with
  | bad a b c=>exact⟨0,(fun ts e=>by cases e),hKR⟩
  | ok ts=>
   obtain⟨j,hj,rfl,-⟩:=HP.out;exact⟨(T.drop j).length,(fun ts e=>by cases e;exact⟨lrf,by rw[List.length_drop];omega⟩),hKR⟩
 have HFU1:=Qh hfu1;have HFU2:=Qh hfu2;clear hKR hKF hfu1 hfu2;go_wp2_with fail;go_loopw [4] (fun kv wr=>∃ (k fu:Nat) (l:List SigX) (v:Value) (s1:RSt),kv=.int .i64 (k:Nat)∧k≤T.length∧l.length≤k∧(∀ ts,s1=.ok ts→ts.length≤fu∧k+ts.length≤T.length)∧R=s1.run msgX0 (fun ts=>(sgsF fu l ts).bind KF)∧RAt wr kr T s1∧Only kr w wr∧wr.heap[ks]? = some (.cells ((⟨t0.line,t0.col,ib.1,ib.2,nm,sz,sd,[]⟩:MsgD).cells (v)) 77)∧wr.heap[w.heap.size]? = some (.cells zeroMsgD 77)∧OwnRd wr w.heap.size 82 (fdSigN w.heap.size) 19 v l) (fun kv _=>T.length - (intOf kv).toNat)
 case atStart=>exact⟨0,fu,[],_,s6,rfl,Nat.zero_le _,by simp,HFU1.out,HFU2.out,HP.out,HO.out,HC.out,HZ.out,OwnRd.nil _ _ _ _ _⟩
 case round=>
  obtain⟨k,fu',l,v,s1,rfl,hk,hlk,hf,hr1,hp1,ho1,hc1,hz1,hown⟩:=hrel;obtain⟨ap,capp,hcp⟩:=hp1.cell0;have HO1:=Qh ho1;have HP1:=Qh hp1;have HF1:=Qh hf;have HR1:=Qh hr1;have HC1:=Qh hc1;have HZ1:=Qh hz1;have HOW1:=Qh hown;have hns:∀ ts,s1=.ok ts→1≤ts.length:=fun ts e=>by
   subst e;obtain⟨i,hi,rfl,-⟩:=HP1.out;rw[List.length_drop];omega
  obtain⟨av,cv,rfl,-⟩:=HOW1.out.shape;clear hp1 ho1 hf hr1 hc1 hz1 hown;by_cases hkl:(k:Int) < T.length
  ·have cs:=red_sees 1 [83,71,95] T hT s1 kr wr HP1.out;cases hS:s1.sees 1 [83,71,95]with
   | false=>
    have hst:∀ ts,s1=.ok ts→seesB [83,71,95] ts=false:=fun ts e=>by
     subst e;obtain⟨j,hj,rfl,-⟩:=HP1.out;rw[← sees_eq hT hj (k:=1) ⟨83,[71,95],rfl,.inl ⟨rfl,by decide⟩⟩];exact hS
    rw[hS]at cs;clear hS;go_wp2_with fail;(with_reducible refine cs.mono ?_);rintro e w2 ⟨rfl,hb⟩;have HOX:=Qh (HO1.out.trans (Only.of_below kr hb));have HPX:=Qh (HP1.out.keep hb);have HCX:=Qh (kind_at HC1.out hb);have HZX:=Qh (kind_at HZ1.out hb);have HOWX:=Qh (HOW1.out.keep (last_fdSigN _) hb);clear cs hb;have HV:=Qh (show R=s1.run msgX0 (KF l)by
     rw[HR1.out];exact run_sgs_stop msgX0 KF (fun ts e=>Nat.le_trans (hns ts e) (HF1.out ts e).1) hst)
    clear hns;obtain⟨CC,hCC⟩:∃ C,C=(⟨t0.line,t0.col,ib.1,ib.2,nm,sz,sd,l⟩:MsgD).cells (.slice av l.length cv):=⟨_,rfl⟩
    have hce:w2.heap[ks]? = some (.cells CC 77):=(by rw[hCC];exact HCX.out);have HCC:=Qh hCC;have sCC:CC.size=8:=(by rw[hCC];rfl);have uCC:CC.all (·.oneCell')=true:=(by rw[hCC];exact MsgD.cells_one _ _ _ _);have bks:Blk w2 ks CC:=⟨_,hce⟩
    have bz:Blk w2 w.heap.size zeroMsgD:=⟨_,HZX.out⟩
    have huS:=underlying77;clear hce hCC;go_wp2_with (first|(refine wpList_loadS bks 77 (.tmp 3) huS (by rw[sCC];exact msg_size) ?_)|(refine wpList_storeS (cs:=CC) bz 77 (.tmp 2) (.tmp 58) (by rw[sCC];exact msg_size) (by rw[sCC];rfl) uCC ?_))
    have hrun:=run_loadS (bz.row CC) 77 _ huS rfl (by rw[sCC];exact msg_size);refine bodyPost_ret (v:=.agg CC) (by simp[results,results30,Act.put,asAddr,hrun]) rfl ?_;refine⟨⟨t0.line,t0.col,ib.1,ib.2,nm,sz,sd,l⟩,CC,rfl,⟨.slice av l.length cv,by rw[HCC.out],HOWX.out.apt (by decide) (apt_fdSigN _ (by decide)) HZX.out (by simp[World.setRow]) (fun b _ hne=>heap_setRow_other _ _ _ _ hne)⟩,HOX.out.row _ lrf CC,?_,fun hok=>?_⟩
    ·rw[HV.out,HKF.out];dsimp only;rw[(run_end s1 msgX0 _).1];exact HPX.out.row hkw CC
    ·have ht:=HMA.out (HBACK.out hok);rw[HV.out,HKF.out]at hok ⊢;dsimp only at hok ⊢;rw[(run_end s1 msgX0 _).1]at hok;rw[(run_end s1 msgX0 _).2 hok];rw[ht]
   | true=>
    cases s1 with
    | bad a b c=>cases hS
    | ok ts=>
     have hp0:=HP1.out;obtain⟨j,hj,rfl,hrj⟩:=hp0;rw[hS]at cs;rw[sees_eq hT hj (k:=1) ⟨83,[71,95],rfl,.inl ⟨rfl,by decide⟩⟩]at hS;obtain⟨hf1,hf2⟩:=HF1.out _ rfl;have hn1:=hns _ rfl;obtain⟨g,rfl⟩:∃ g,fu' = g+1:=⟨fu' - 1,by omega⟩
     have HSS:=Qh hS;have htB:=hT.b.drop hj;clear hS hns hrj;go_wp2_with fail;(with_reducible refine cs.mono ?_);rintro e w2 ⟨rfl,hb⟩;have HO2:=Qh (HO1.out.trans (Only.of_below kr hb));have HP2:=Qh (HP1.out.keep hb);have HC2:=Qh (kind_at HC1.out hb);have HZ2:=Qh (kind_at HZ1.out hb);have HOW2:=Qh (HOW1.out.keep (last_fdSigN _) hb);have c7:=Blk.cell ⟨_,HC2.out⟩ 7 (.slice av l.length cv) rfl;clear cs hb hcp;by_cases h64:l.length=64
     ·have cw:=red_wrong 5 (by decide) T hT (.ok (T.drop j)) kr w2 HP2.out;have hm:=run_sgs_many (f:=g) msgX0 KF HSS.out h64;have HV:=Qh (show R=(msgX0,(RSt.ok (T.drop j)).wrong 5)by rw[HR1.out];exact hm);have h64b:((l.length:Int) == 64)=true:=(by rw[h64];rfl);have hl65:l.length≤1000:=(by omega);clear h64;go_wp2_with fail;(with_reducible refine cw.mono ?_);rintro e w3 ⟨rfl,ho,hp⟩;have HO3:=Qh (HO2.out.trans ho);have HP3:=Qh hp;have HC3:=Qh (kind_only HC2.out (by omega) ho);have HZ3:=Qh (kind_only HZ2.out (by omega) ho);obtain⟨CR2,hCR2⟩:=HP2.out.kind;have HOW3:=Qh (HOW2.out.apt (by decide) (apt_fdSigN _ (by decide)) hCR2 ho.size (fun b hb hne=>ho.block b hb (by simpa using hne)));obtain⟨CR,hCR⟩:=HP3.out.kind;have HKR3:=Qh hCR;have cg:=red_signal T hT ((RSt.ok (T.drop j)).wrong 5) kr w3 HP3.out;rw[show(((RSt.ok (T.drop j)).wrong 5).run sigX0 sigR)=(sigX0,(RSt.ok (T.drop j)).wrong 5)from rfl]at cg;unfold SgPost at cg;clear cw ho hp hCR hCR2 hm c7;go_wp2_with fail;(with_reducible refine cg.mono ?_);rintro e W4 ⟨x,C6,rfl,hfd,ho,hp,hxok⟩;have hD6:C6.size=19:=(by have:=fdSig_size hfd;rwa [Array.length_toList]at this);have hD1:=fdSig_one hfd;have hfold:=fold_set zeroSig C6 19 hD6 rfl;have HFD:=Qh (show fdSigN w.heap.size W4 x C6.toList from by
       obtain⟨u,h1,h2⟩:=hfd;exact⟨u,h1,h2.fromBase HO3.out.size⟩)
      have HO4:=Qh (HO3.out.trans ho);have HP4:=Qh hp;have HC4:=Qh (kind_only HC3.out (by omega) ho);have HZ4:=Qh (kind_only HZ3.out (by omega) ho);have HOW4:=Qh (HOW3.out.apt (by decide) (apt_fdSigN _ (by decide)) HKR3.out ho.size (fun b hb hne=>ho.block b hb (by simpa using hne)));have HXOK:=Qh hxok;clear cg ho hp hfd hxok;have hb5:Below W4.heap.size W4 (W4.alloc (.cells C6 82)):=(Below.refl _ _).alloc lrf _;have hnb:=Blk.new W4 C6 82;have HO5:=Qh (HO4.out.trans (Only.of_below kr hb5));have HP5:=Qh (HP4.out.keep hb5);have HC5:=Qh (kind_at HC4.out hb5);have HZ5:=Qh (kind_at HZ4.out hb5);have HOW5:=Qh (HOW4.out.keep (last_fdSigN _) hb5);have HFD5:=Qh (last_fdSigN _ _ _ _ _ HFD.out hb5);clear hb5;go_upto_region 14 with (refine wpList_newS (Z:=zeroSig) (cs:=C6) 82 (.tmp 5) (.tmp 51) (by rw[hD6];exact sig_zero) (by rw[hD6];rfl) hD1 ?_)
      generalize W4.alloc (.cells C6 82)=W5 at *;generalize W4.heap.size=k5 at *;have c75:=Blk.cell ⟨_,HC5.out⟩ 7 (.slice av l.length cv) rfl;have huG:=underlying82;have hs5:w.heap.size≤W5.heap.size:=HO5.out.size;go_wp2_with (first|(refine wpList_loadS hnb 82 (.tmp 5) huG (by rw[hD6];exact sig_size) ?_)|(at_builtin;go_loud (refine wpList_append_rd (last_fdSigN _) sigs_ty l x HOW5.out (Below.refl w.heap.size W5) hs5 (by omega) HFD5.out hD6 hD1 (apt_fdSigN _ (by decide)) ?_)))
      rintro v6 W6 hown6 hb6 hgr6;obtain⟨a6,n6,c6,hv6⟩:∃ a n c,v6=.slice a n c:=by obtain⟨a6,c6,e,-⟩:=hown6.shape;exact⟨_,_,_,e⟩
      subst hv6;obtain⟨rows5,hr5,-⟩:=HOW5.out;have HC6:=Qh (heap_grown2 HC5.out hr5 (by decide) hgr6);have HZ6:=Qh (heap_grown2 HZ5.out hr5 (by decide) hgr6);have HO6:=Qh (Only.low HO5.out hb6);have HP6:=Qh (RAt.low HP5.out hkw hb6);have hcv6:=Blk.cell ⟨_,HC6.out⟩ 7 (.slice av l.length cv) rfl;have hfr6:=Blk.free ⟨_,HC6.out⟩ 7;have HC7:=Qh (set_at HC6.out 7 (.slice a6 n6 c6));have HZ7:=Qh (set_ne HZ6.out (show w.heap.size≠ks by omega) 7 (.slice a6 n6 c6));have HO7:=Qh (Only.new HO6.out ks hks 7 (.slice a6 n6 c6));have HP7:=Qh (RAt.set HP6.out hkks 7 (.slice a6 n6 c6));have OW7:=Qh (hown6.apt (by decide) (apt_fdSigN _ (by decide)) HC6.out (by simp[World.setCell]) (fun b _ hne=>Below.heap_setCell _ ⟨ks,7,none⟩ (.slice a6 n6 c6) b hne));clear hown6 hb6 hgr6 hr5 hfold hnb;go_wp2_with fail;go_roundw;case rel=>exact⟨k+1,g,l++[x],_,(RSt.ok (T.drop j)).wrong 5,by go_num,by omega,by simp only[List.length_append,List.length_cons,List.length_nil];omega,(fun ts e=>by cases e),HV.out,HP7.out,HO7.out,HC7.out,HZ7.out,OW7.out⟩
      case measure=>simp[intOf];omega
     ·have h64b:((l.length:Int) == 64)=false:=bN (by omega);have HO3:=HO2;have HP3:=HP2;have HC3:=HC2;have HZ3:=HZ2;have HOW3:=HOW2;obtain⟨CR,hCR⟩:=HP3.out.kind;have HKR3:=Qh hCR;have cg:=red_signal T hT (.ok (T.drop j)) kr w2 HP3.out;have HGO:=Qh (fun x hx=>run_sgs_go (f:=g) msgX0 KF HSS.out h64 x hx);obtain⟨q,hq⟩:∃ q,q=(RSt.ok (T.drop j)).run sigX0 sigR:=⟨_,rfl⟩
      have HSM:=Qh (show ∀ ts,q.2=.ok ts→ts.length < (T.drop j).length by
       intro ts e;rw[hq]at e;obtain⟨xx,h2⟩:=run_ok2 e;exact(sig_takes _ _ _ h2 htB).2)
      have hgo:=HGO.out;rw[← hq]at cg hgo;have HGO:=Qh hgo;unfold SgPost at cg;clear hCR hq hgo;go_wp2_with fail;(with_reducible refine cg.mono ?_);rintro e W4 ⟨x,C6,rfl,hfd,ho,hp,hxok⟩;have hD6:C6.size=19:=(by have:=fdSig_size hfd;rwa [Array.length_toList]at this);have hD1:=fdSig_one hfd;have hfold:=fold_set zeroSig C6 19 hD6 rfl;have HFD:=Qh (show fdSigN w.heap.size W4 x C6.toList from by
       obtain⟨u,h1,h2⟩:=hfd;exact⟨u,h1,h2.fromBase HO3.out.size⟩)
      have HO4:=Qh (HO3.out.trans ho);have HP4:=Qh hp;have HC4:=Qh (kind_only HC3.out (by omega) ho);have HZ4:=Qh (kind_only HZ3.out (by omega) ho);have HOW4:=Qh (HOW3.out.apt (by decide) (apt_fdSigN _ (by decide)) HKR3.out ho.size (fun b hb hne=>ho.block b hb (by simpa using hne)));have HXOK:=Qh hxok;clear cg ho hp hfd hxok;have hb5:Below W4.heap.size W4 (W4.alloc (.cells C6 82)):=(Below.refl _ _).alloc lrf _;have hnb:=Blk.new W4 C6 82;have HO5:=Qh (HO4.out.trans (Only.of_below kr hb5));have HP5:=Qh (HP4.out.keep hb5);have HC5:=Qh (kind_at HC4.out hb5);have HZ5:=Qh (kind_at HZ4.out hb5);have HOW5:=Qh (HOW4.out.keep (last_fdSigN _) hb5);have HFD5:=Qh (last_fdSigN _ _ _ _ _ HFD.out hb5);clear hb5;go_upto_region 14 with (refine wpList_newS (Z:=zeroSig) (cs:=C6) 82 (.tmp 5) (.tmp 51) (by rw[hD6];exact sig_zero) (by rw[hD6];rfl) hD1 ?_)
      generalize W4.alloc (.cells C6 82)=W5 at *;generalize W4.heap.size=k5 at *;have c75:=Blk.cell ⟨_,HC5.out⟩ 7 (.slice av l.length cv) rfl;have huG:=underlying82;have hs5:w.heap.size≤W5.heap.size:=HO5.out.size;go_wp2_with (first|(refine wpList_loadS hnb 82 (.tmp 5) huG (by rw[hD6];exact sig_size) ?_)|(at_builtin;go_loud (refine wpList_append_rd (last_fdSigN _) sigs_ty l x HOW5.out (Below.refl w.heap.size W5) hs5 (by omega) HFD5.out hD6 hD1 (apt_fdSigN _ (by decide)) ?_)))
      rintro v6 W6 hown6 hb6 hgr6;obtain⟨a6,n6,c6,hv6⟩:∃ a n c,v6=.slice a n c:=by obtain⟨a6,c6,e,-⟩:=hown6.shape;exact⟨_,_,_,e⟩
      subst hv6;obtain⟨rows5,hr5,-⟩:=HOW5.out;have HC6:=Qh (heap_grown2 HC5.out hr5 (by decide) hgr6);have HZ6:=Qh (heap_grown2 HZ5.out hr5 (by decide) hgr6);have HO6:=Qh (Only.low HO5.out hb6);have HP6:=Qh (RAt.low HP5.out hkw hb6);have hcv6:=Blk.cell ⟨_,HC6.out⟩ 7 (.slice av l.length cv) rfl;have hfr6:=Blk.free ⟨_,HC6.out⟩ 7;have HC7:=Qh (set_at HC6.out 7 (.slice a6 n6 c6));have HZ7:=Qh (set_ne HZ6.out (show w.heap.size≠ks by omega) 7 (.slice a6 n6 c6));have HO7:=Qh (Only.new HO6.out ks hks 7 (.slice a6 n6 c6));have HP7:=Qh (RAt.set HP6.out hkks 7 (.slice a6 n6 c6));have OW7:=Qh (hown6.apt (by decide) (apt_fdSigN _ (by decide)) HC6.out (by simp[World.setCell]) (fun b _ hne=>Below.heap_setCell _ ⟨ks,7,none⟩ (.slice a6 n6 c6) b hne));clear hown6 hb6 hgr6 hr5 hfold hnb;go_wp2_with fail;go_roundw;case rel=>exact⟨k+1,g,l++[x],_,q.2,by go_num,by omega,by simp only[List.length_append,List.length_cons,List.length_nil];omega,(fun ts e=>by have:=HSM.out ts e;exact⟨by omega,by omega⟩),by rw[HR1.out];exact HGO.out x HXOK.out,HP7.out,HO7.out,HC7.out,HZ7.out,OW7.out⟩
      case measure=>simp[intOf];omega
  ·have hst:∀ ts,s1=.ok ts→seesB [83,71,95] ts=false:=fun ts e=>by
    have h1:=(HF1.out ts e).2;have h2:=hns ts e;omega
   have HOX:=HO1;have HPX:=HP1;have HCX:=HC1;have HZX:=HZ1;have HOWX:=HOW1;have HV:=Qh (show R=s1.run msgX0 (KF l)by
    rw[HR1.out];exact run_sgs_stop msgX0 KF (fun ts e=>Nat.le_trans (hns ts e) (HF1.out ts e).1) hst)
   clear hns;obtain⟨CC,hCC⟩:∃ C,C=(⟨t0.line,t0.col,ib.1,ib.2,nm,sz,sd,l⟩:MsgD).cells (.slice av l.length cv):=⟨_,rfl⟩
   have hce:wr.heap[ks]? = some (.cells CC 77):=(by rw[hCC];exact HCX.out);have HCC:=Qh hCC;have sCC:CC.size=8:=(by rw[hCC];rfl);have uCC:CC.all (·.oneCell')=true:=(by rw[hCC];exact MsgD.cells_one _ _ _ _);have bks:Blk wr ks CC:=⟨_,hce⟩
   have bz:Blk wr w.heap.size zeroMsgD:=⟨_,HZX.out⟩
   have huS:=underlying77;clear hce hCC;go_wp2_with (first|(refine wpList_loadS bks 77 (.tmp 3) huS (by rw[sCC];exact msg_size) ?_)|(refine wpList_storeS (cs:=CC) bz 77 (.tmp 2) (.tmp 58) (by rw[sCC];exact msg_size) (by rw[sCC];rfl) uCC ?_))
   have hrun:=run_loadS (bz.row CC) 77 _ huS rfl (by rw[sCC];exact msg_size);refine bodyPost_ret (v:=.agg CC) (by simp[results,results30,asAddr,hrun]) rfl ?_;refine⟨⟨t0.line,t0.col,ib.1,ib.2,nm,sz,sd,l⟩,CC,rfl,⟨.slice av l.length cv,by rw[HCC.out],HOWX.out.apt (by decide) (apt_fdSigN _ (by decide)) HZX.out (by simp[World.setRow]) (fun b _ hne=>heap_setRow_other _ _ _ _ hne)⟩,HOX.out.row _ lrf CC,?_,fun hok=>?_⟩
   ·rw[HV.out,HKF.out];dsimp only;rw[(run_end s1 msgX0 _).1];exact HPX.out.row hkw CC
   ·have ht:=HMA.out (HBACK.out hok);rw[HV.out,HKF.out]at hok ⊢;dsimp only at hok ⊢;rw[(run_end s1 msgX0 _).1]at hok;rw[(run_end s1 msgX0 _).2 hok];rw[ht]
def tabX0:TabD:=⟨0,0,0,false,[],[]⟩
def TbPost (kr:Nat) (w:World) (T:List TokD) (R:TabD×RSt) (e:Ending) (w':World):Prop:=
 ∃ (x:TabD) (C:Array Value),e=.returned (.agg C)∧fdTabN w.heap.size w' x C.toList∧Only kr w w'∧RAt w' kr T R.2∧(R.2.isOk→R.1=x)
theorem row_zero:(prog.info? 178).map (fun i=>(i.zero,i.size))=some (some (.agg #[.int .i64 0,.string ⟨#[]⟩]),2):=by kernel_rfl
theorem row_sizeR:(prog.info? 178).map (·.size)=some 2:=by kernel_rfl
theorem run_rows_stop {β:Type} {st:RSt} {f:Nat} {l:List (Int×List UInt8)} (d:β) (KF:List (Int×List UInt8)→List TokD→PR β) (hf:∀ ts,st=.ok ts→1≤f) (h:∀ ts,st=.ok ts→(headT ts).kind≠2):st.run d (fun ts=>(rowsF f l ts).bind KF)=st.run d (KF l):=by
 cases st with
 | bad n l c=>rfl
 | ok ts=>
  obtain⟨f',rfl⟩:∃ f',f=f' + 1:=⟨f - 1,by have:=hf ts rfl;omega⟩
  unfold RSt.run;simp only;rw[rowsF_row,if_neg (h ts rfl)];rfl
theorem run_rows_go {β:Type} {ts:List TokD} {f:Nat} {l:List (Int×List UInt8)} (d:β) (KF:List (Int×List UInt8)→List TokD→PR β) (h:(headT ts).kind=2) (x:Int×List UInt8) (hx:((RSt.ok ts).run (0,[]) (rowR l.length)).2.isOk→((RSt.ok ts).run (0,[]) (rowR l.length)).1=x) :
  (RSt.ok ts).run d (fun ts=>(rowsF (f+1) l ts).bind KF)=((RSt.ok ts).run (0,[]) (rowR l.length)).2.run d (fun tz=>(rowsF f (l++[x]) tz).bind KF):=by
 have ht:=rowsF_row f l ts;rw[if_pos h]at ht;cases hn:rowR l.length ts with
 | ok y t=>
  have e:(RSt.ok ts).run (0,[]) (rowR l.length)=(y,.ok t):=by
   unfold RSt.run;simp only;rw[hn]
  rw[e]at hx ⊢;have hy:y=x:=hx trivial;subst hy;unfold RSt.run;simp only;rw[ht,hn];rfl
 | bad a b c=>
  have e:(RSt.ok ts).run (0,[]) (rowR l.length)=((0,[]),.bad a b c):=by
   unfold RSt.run;simp only;rw[hn]
  rw[e];unfold RSt.run;simp only;rw[ht,hn];rfl
theorem rowR_len {n:Nat} {ts ts':List TokD} {x:Int×List UInt8} (h:rowR n ts=.ok x ts') (hb:TsB ts) (hk:(headT ts).kind=2):ts'.length < ts.length:=by
 unfold rowR wrongR at h;split at h
 ·cases h
 ·split at h
  ·cases h
  ·obtain⟨y,t,h1,h2⟩:=bind_inv h;obtain⟨b1,l1⟩:=next_takes _ _ _ _ h1 (hb.tail (by rw[hk];decide));cases h2
   have:=tail_lt hb;omega
set_option maxRecDepth 100000 in theorem red_table (T : List TokD) (hT : TsW T) (st : RSt) (kr : Nat) (w : World) (h : RAt w kr T st) :
  Calls prog 31 #[.pointer (some ⟨kr,0,none⟩)] w fun e w'=>TbPost kr w T (st.run tabX0 tableR) e w':=by
 have hpos:=hT.b.1.pos;have hlen:=hT.b.2.2;obtain⟨R,hR⟩:∃ R,R=st.run tabX0 tableR:=⟨_,rfl⟩
 rw[← hR];unfold tableR at hR;have HR:=Qh hR;clear hR;have hkw:=h.lt;have hb0:Below w.heap.size w (w.alloc (.cells zeroTabD 111)):=(Below.refl _ _).alloc lrf _;have HO:=Qh (Only.of_below kr hb0);have HP:=Qh (h.keep hb0);have HZ:=Qh (heap_alloc_new w (.cells zeroTabD 111));have hf2:=tk_f2;have hf0:=tk_f0;obtain⟨i,no,l0,c0,hi,hri,hhd⟩:=HP.out.head;have cn:=red_now T hpos hlen i no l0 c0 kr _ hi hri;unfold tkV enTok at cn;have HMA:=Qh (run_must_at st [86,65,76,95] i T hhd);generalize hdT T i=t0 at *;clear hb0 h hri hhd;go_enter func31,ntmps31
 go_wp2_with fail;(with_reducible refine cn.mono ?_);rintro e W1 ⟨rfl,hb⟩;have HZ:=Qh (kind_at HZ.out hb);have HO:=Qh (HO.out.trans (Only.of_below kr hb));have HP:=Qh (HP.out.keep hb);clear cn hb;obtain⟨C0,hC0⟩:∃ C,C=(⟨t0.line,t0.col,0,false,[],[]⟩:TabD).cells (.slice none 0 0):=⟨_,rfl⟩
 have HC0:=Qh hC0;have sC0:C0.size=6:=(by rw[hC0];rfl);have uC0:C0.all (·.oneCell')=true:=(by rw[hC0];exact TabD.cells_one _ _ _ _);clear hC0;go_upto_region 2 with (refine wpList_newS (Z:=zeroTabD) (cs:=C0) 111 (.tmp 3) (.tmp 9) (by rw[sC0];exact tab_zero) (by rw[sC0];rfl) uC0 ?_ (hy:=by rw[HC0.out];rfl))
 have hbn:Below W1.heap.size W1 (W1.alloc (.cells C0 111)):=(Below.refl _ _).alloc lrf _;have hkz:w.heap.size < W1.heap.size:=(gE HZ.out)
 have hks:w.heap.size≤W1.heap.size:=Nat.le_of_lt hkz;have hkks:kr < W1.heap.size:=(by omega);have HC:=Qh (show(W1.alloc (.cells C0 111)).heap[W1.heap.size]? = some (.cells ((⟨t0.line,t0.col,0,false,[],[]⟩:TabD).cells (.slice none 0 0)) 111)by rw[← HC0.out];exact heap_alloc_new W1 _);have HZ:=Qh (kind_at HZ.out hbn);have HO:=Qh (HO.out.trans (Only.of_below kr hbn));have HP:=Qh (HP.out.keep hbn);clear hbn;generalize hkk:W1.heap.size=ks at *;generalize W1.alloc (.cells C0 111)=W2 at *;have cc:=red_must 1 [86,65,76,95] ⟨_,_,rfl,.inl ⟨rfl,by decide⟩⟩ T hT st kr _ HP.out;have hr:=HR.out;rw[run_bind st tok0 tabX0 (mustR [86,65,76,95])]at hr;try dsimp only at hr
 have hma:=HMA.out;obtain⟨t,hx⟩:∃ x,x=(st.run tok0 (mustR [86,65,76,95])).1:=⟨_,rfl⟩
 obtain⟨s1,hs⟩:∃ s,s=(st.run tok0 (mustR [86,65,76,95])).2:=⟨_,rfl⟩
 rw[← hs]at hr;try rw[← hx]at hr
 rw[← hs,← hx]at hma;have HMA:=Qh hma;have HBACK:=Qh (fun (h:R.2.isOk)=>run_isOk (by rw[hr]at h;exact h));clear hma;rw[← hs]at cc;try rw[← hx]at cc
 have HR:=Qh hr;clear hr hx hs;go_wp2_with fail;(with_reducible refine cc.mono ?_);rintro e W3 ⟨rfl,ho,hp⟩;have HZ:=Qh (kind_only HZ.out (by omega) ho);have HC:=Qh (kind_only HC.out (by omega) ho);have HO:=Qh (HO.out.trans ho);have HP:=Qh hp;clear cc ho hp;have cc:=red_id T hT s1 kr _ HP.out;have hr:=HR.out;rw[run_bind s1 (0,false) tabX0 (idR)]at hr;try dsimp only at hr
 obtain⟨ib,hx⟩:∃ x,x=(s1.run (0,false) (idR)).1:=⟨_,rfl⟩
 obtain⟨s2,hs⟩:∃ s,s=(s1.run (0,false) (idR)).2:=⟨_,rfl⟩
 rw[← hs]at hr;try rw[← hx]at hr
 rw[← hs]at cc;try rw[← hx]at cc
 have HR:=Qh hr;clear hr hx hs;go_wp2_with fail;(with_reducible refine cc.mono ?_);rintro e W4 ⟨rfl,ho,hp⟩;have HZ:=Qh (kind_only HZ.out (by omega) ho);have HC:=Qh (kind_only HC.out (by omega) ho);have HO:=Qh (HO.out.trans ho);have HP:=Qh hp;clear cc ho hp;have c2:=Blk.cell ⟨_,HC.out⟩ 2 (.int .u32 0) rfl;have r2:=Blk.free ⟨_,HC.out⟩ 2;have c3:=Blk.cell ⟨_,HC.out⟩ 3 (.bool false) rfl;have r3:=Blk.free ⟨_,HC.out⟩ 3;have f2_3:∀ v,(W4.setCell ⟨ks,2,none⟩ v).cell? ⟨ks,3,none⟩=some (.bool false):=fun v=>Blk.cell ⟨_,set_at HC.out 2 v⟩ 3 _ rfl
 have g2_3:∀ v,(W4.setCell ⟨ks,2,none⟩ v).frozen? ⟨ks,3,none⟩=false:=fun v=>Blk.free ⟨_,set_at HC.out 2 v⟩ 3
 have HC2:=Qh (show((W4.setCell ⟨ks,2,none⟩ (.int .u32 (ib.1:Nat))).setCell ⟨ks,3,none⟩ (.bool ib.2)).heap[ks]? = some (.cells ((⟨t0.line,t0.col,ib.1,ib.2,[],[]⟩:TabD).cells (.slice none 0 0)) 111)from (set_at (set_at HC.out 2 (.int .u32 (ib.1:Nat))) 3 (.bool ib.2)));have HO2:=Qh (Only.new (Only.new HO.out ks hks 2 (.int .u32 (ib.1:Nat))) ks hks 3 (.bool ib.2));have HZ2:=Qh (set_ne (set_ne HZ.out (show w.heap.size≠ks by omega) 2 (.int .u32 (ib.1:Nat))) (show w.heap.size≠ks by omega) 3 (.bool ib.2));have HP2:=Qh (RAt.set (RAt.set HP.out hkks 2 (.int .u32 (ib.1:Nat))) hkks 3 (.bool ib.2));go_upto_region 4 with fail
 clear c2 r2 c3 r3;have HC:=HC2;have HO:=HO2;have HZ:=HZ2;have HP:=HP2;clear HC2 HO2 HZ2 HP2;generalize ((W4.setCell ⟨ks,2,none⟩ (.int .u32 (ib.1:Nat))).setCell ⟨ks,3,none⟩ (.bool ib.2))=W5 at *;have cc:=red_name T hT s2 kr _ HP.out;have hr:=HR.out;rw[run_bind s2 [] tabX0 (nameR)]at hr;try dsimp only at hr
 obtain⟨nm,hx⟩:∃ x,x=(s2.run [] (nameR)).1:=⟨_,rfl⟩
 obtain⟨s3,hs⟩:∃ s,s=(s2.run [] (nameR)).2:=⟨_,rfl⟩
 rw[← hs]at hr;try rw[← hx]at hr
 rw[← hs]at cc;try rw[← hx]at cc
 have HR:=Qh hr;clear hr hx hs;go_wp2_with fail;(with_reducible refine cc.mono ?_);rintro e W6 ⟨rfl,ho,hp⟩;have HZ:=Qh (kind_only HZ.out (by omega) ho);have HC:=Qh (kind_only HC.out (by omega) ho);have HO:=Qh (HO.out.trans ho);have HP:=Qh hp;clear cc ho hp;have c4:=Blk.cell ⟨_,HC.out⟩ 4 (.string ⟨#[]⟩) rfl;have r4:=Blk.free ⟨_,HC.out⟩ 4;have HC2:=Qh (show(W6.setCell ⟨ks,4,none⟩ (.string ⟨nm.toArray⟩)).heap[ks]? = some (.cells ((⟨t0.line,t0.col,ib.1,ib.2,nm,[]⟩:TabD).cells (.slice none 0 0)) 111)from (set_at HC.out 4 (.string ⟨nm.toArray⟩)));have HO2:=Qh (Only.new HO.out ks hks 4 (.string ⟨nm.toArray⟩));have HZ2:=Qh (set_ne HZ.out (show w.heap.size≠ks by omega) 4 (.string ⟨nm.toArray⟩));have HP2:=Qh (RAt.set HP.out hkks 4 (.string ⟨nm.toArray⟩));go_upto_region 5 with fail
 clear c4 r4;have HC:=HC2;have HO:=HO2;have HZ:=HZ2;have HP:=HP2;clear HC2 HO2 HZ2 HP2;generalize (W6.setCell ⟨ks,4,none⟩ (.string ⟨nm.toArray⟩))=W7 at *;obtain⟨KF,hKR,hKF⟩:∃ KF:List (Int×List UInt8)→List TokD→PR TabD,R=s3.run tabX0 (fun ts=>(rowsF ts.length [] ts).bind KF)∧KF=fun l ts=>(mustR [59] ts).bind fun _ ts=>.ok ⟨t.line,t.col,ib.1,ib.2,nm,l⟩ ts:=⟨_,HR.out,rfl⟩
 have HKF:=Qh hKF;obtain⟨fu,hfu1,hfu2⟩:∃ fu:Nat,(∀ ts,s3=.ok ts→ts.length≤fu∧0+ts.length≤T.length)∧R=s3.run tabX0 (fun ts=>(rowsF fu [] ts).bind KF):=by
  cases s3 with
  | bad a b c=>exact⟨0,(fun ts e=>by cases e),hKR⟩
  | ok ts=>
   obtain⟨j,hj,rfl,-⟩:=HP.out;exact⟨(T.drop j).length,(fun ts e=>by cases e;exact⟨lrf,by rw[List.length_drop];omega⟩),hKR⟩
 have HFU1:=Qh hfu1;have HFU2:=Qh hfu2;clear hKR hKF hfu1 hfu2;go_wp2_with fail;go_loopw [4] (fun kv wr=>∃ (k fu:Nat) (l:List (Int×List UInt8)) (v:Value) (s1:RSt),kv=.int .i64 (k:Nat)∧k≤T.length∧l.length≤k∧(∀ ts,s1=.ok ts→ts.length≤fu∧k+ts.length≤T.length)∧R=s1.run tabX0 (fun ts=>(rowsF fu l ts).bind KF)∧RAt wr kr T s1∧Only kr w wr∧wr.heap[ks]? = some (.cells ((⟨t0.line,t0.col,ib.1,ib.2,nm,[]⟩:TabD).cells (v)) 111)∧wr.heap[w.heap.size]? = some (.cells zeroTabD 111)∧Owns wr w.heap.size 178 2 enRw v l) (fun kv _=>T.length - (intOf kv).toNat)
 case atStart=>exact⟨0,fu,[],_,s3,rfl,Nat.zero_le _,by simp,HFU1.out,HFU2.out,HP.out,HO.out,HC.out,HZ.out,Owns.nil _ _ _ _ _⟩
 case round=>
  obtain⟨k,fu',l,v,s1,rfl,hk,hlk,hf,hr1,hp1,ho1,hc1,hz1,hown⟩:=hrel;obtain⟨ap,capp,hcp⟩:=hp1.cell0;have HO1:=Qh ho1;have HP1:=Qh hp1;have HF1:=Qh hf;have HR1:=Qh hr1;have HC1:=Qh hc1;have HZ1:=Qh hz1;have HOW1:=Qh hown;have hns:∀ ts,s1=.ok ts→1≤ts.length:=fun ts e=>by
   subst e;obtain⟨i,hi,rfl,-⟩:=HP1.out;rw[List.length_drop];omega
  obtain⟨av,cv,rfl,-⟩:=HOW1.out.shape;clear hp1 ho1 hf hr1 hc1 hz1 hown;by_cases hkl:(k:Int) < T.length
  ·cases s1 with
   | bad a b c=>
    have hst:∀ ts,RSt.bad a b c=.ok ts→(headT ts).kind≠2:=fun ts e=>by cases e
    obtain⟨h0,j,hj,hrj⟩:=HP1.out;obtain⟨vj,hcj⟩:=hrj.cells;have f2:=hcj.cell 2 (.int .i64 a) rfl;have e0:=bN h0;have HOX:=HO1;have HPX:=HP1;have HCX:=HC1;have HZX:=HZ1;have HOWX:=HOW1;clear hrj hcj;have HV:=Qh (show R=(RSt.bad a b c).run tabX0 (KF l)by
     rw[HR1.out];exact run_rows_stop tabX0 KF (fun ts e=>Nat.le_trans (hns ts e) (HF1.out ts e).1) hst)
    clear hns;have hv:=HV.out;rw[HKF.out]at hv;dsimp only at hv;rw[run_bind (RSt.bad a b c) tok0 tabX0 (mustR [59])]at hv;have cM:=red_must 4 [59] ⟨59,[],rfl,.inr ⟨rfl,by decide⟩⟩ T hT (RSt.bad a b c) kr _ HPX.out;obtain⟨s9,hs9⟩:∃ s,s=((RSt.bad a b c).run tok0 (mustR [59])).2:=⟨_,rfl⟩
    rw[← hs9]at hv cM;have HV:=Qh (show R=s9.run tabX0 (fun ts=>.ok ⟨t.line,t.col,ib.1,ib.2,nm,l⟩ ts)from hv);clear hv hs9;go_wp2_with fail;(with_reducible refine cM.mono ?_);rintro e w9 ⟨rfl,ho,hp⟩;have HOY:=Qh (HOX.out.trans ho);have HPY:=Qh hp;have HCY:=Qh (kind_only HCX.out (by omega) ho);have HZY:=Qh (kind_only HZX.out (by omega) ho);have HOWY:=Qh (Owns.only HOWX.out hkw ho);clear cM ho hp;obtain⟨CC,hCC⟩:∃ C,C=(⟨t0.line,t0.col,ib.1,ib.2,nm,l⟩:TabD).cells (.slice av l.length cv):=⟨_,rfl⟩
    have hce:w9.heap[ks]? = some (.cells CC 111):=(by rw[hCC];exact HCY.out);have HCC:=Qh hCC;have sCC:CC.size=6:=(by rw[hCC];rfl);have uCC:CC.all (·.oneCell')=true:=(by rw[hCC];exact TabD.cells_one _ _ _ _);have bks:Blk w9 ks CC:=⟨_,hce⟩
    have bz:Blk w9 w.heap.size zeroTabD:=⟨_,HZY.out⟩
    have huS:=underlying111;clear hce hCC;go_wp2_with (first|(refine wpList_loadS bks 111 (.tmp 3) huS (by rw[sCC];exact tab_size) ?_)|(refine wpList_storeS (cs:=CC) bz 111 (.tmp 2) (.tmp 57) (by rw[sCC];exact tab_size) (by rw[sCC];rfl) uCC ?_))
    have hrun:=run_loadS (bz.row CC) 111 _ huS rfl (by rw[sCC];exact tab_size);refine bodyPost_ret (v:=.agg CC) (by simp[results,results31,Act.put,asAddr,hrun]) rfl ?_;refine⟨⟨t0.line,t0.col,ib.1,ib.2,nm,l⟩,CC,rfl,⟨.slice av l.length cv,by rw[HCC.out],HOWY.out.apt (by decide) HZY.out (fun b _ hne=>heap_setRow_other _ _ _ _ hne)⟩,HOY.out.row _ lrf CC,?_,fun hok=>?_⟩
    ·rw[HV.out];rw[(run_end s9 tabX0 _).1];exact HPY.out.row hkw CC
    ·have ht:=HMA.out (HBACK.out hok);rw[HV.out]at hok ⊢;rw[(run_end s9 tabX0 _).1]at hok;rw[(run_end s9 tabX0 _).2 hok];rw[ht]
   | ok ts=>
    have hp0:=HP1.out;obtain⟨j,hj,rfl,hrj⟩:=hp0;obtain⟨hf1,hf2⟩:=HF1.out _ rfl;have hn1:=hns _ rfl;obtain⟨g,rfl⟩:∃ g,fu' = g+1:=⟨fu' - 1,by omega⟩
    have htB:=hT.b.drop hj;obtain⟨vj,hcj⟩:=hrj.cells;have f2:=hcj.cell 2 (.int .i64 0) rfl;have cs:=red_now T hpos hlen j 0 0 0 kr wr (Nat.le_of_lt hj) hrj;rw[hdT_ok hj]at cs;unfold tkV enTok at cs;have HRJ:=Qh hrj;clear hrj hcj;by_cases hk2:(headT (T.drop j)).kind=2
    ·have HK2:=Qh hk2;rw[hk2]at cs;clear hk2;go_wp2_with fail;(with_reducible refine cs.mono ?_);rintro e w2 ⟨rfl,hb⟩;have HO2:=Qh (HO1.out.trans (Only.of_below kr hb));have HR2:=Qh (HRJ.out.keep hb);have HC2:=Qh (kind_at HC1.out hb);have HZ2:=Qh (kind_at HZ1.out hb);have HOW2:=Qh (HOW1.out.keep hb lrf);have c5:=Blk.cell ⟨_,HC2.out⟩ 5 (.slice av l.length cv) rfl;have cg:=red_row l.length T hT j hj HK2.out kr w2 HR2.out;have HGO:=Qh (fun x hx=>run_rows_go (f:=g) (l:=l) tabX0 KF HK2.out x hx);obtain⟨q,hq⟩:∃ q,q=(RSt.ok (T.drop j)).run (0,[]) (rowR l.length):=⟨_,rfl⟩
     have HSM:=Qh (show ∀ ts,q.2=.ok ts→ts.length < (T.drop j).length by
      intro ts e;rw[hq]at e;obtain⟨xx,h2⟩:=run_ok2 e;exact rowR_len h2 htB HK2.out)
     have hgo:=HGO.out;rw[← hq]at cg hgo;have HGO:=Qh hgo;clear cs hb hcp f2 hq hgo;go_wp2_with fail;(with_reducible refine cg.mono ?_);rintro e W4 ⟨z,tx,rfl,ho,hp,hxok⟩;have HO4:=Qh (HO2.out.trans ho);have HP4:=Qh hp;have HC4:=Qh (kind_only HC2.out (by omega) ho);have HZ4:=Qh (kind_only HZ2.out (by omega) ho);have HOW4:=Qh (Owns.only HOW2.out hkw ho);have HXOK:=Qh hxok;have hb5:Below W4.heap.size W4 (W4.alloc (.cells #[.int .i64 z,.string ⟨tx.toArray⟩] 178)):=(Below.refl _ _).alloc lrf _;have hnb:=Blk.new W4 #[.int .i64 z,.string ⟨tx.toArray⟩] 178;have HO5:=Qh (HO4.out.trans (Only.of_below kr hb5));have HP5:=Qh (HP4.out.keep hb5);have HC5:=Qh (kind_at HC4.out hb5);have HZ5:=Qh (kind_at HZ4.out hb5);have HOW5:=Qh (HOW4.out.keep hb5 lrf);clear hb5 cg ho hp hxok c5;go_upto_region 9 with (refine wpList_newS (Z:=#[.int .i64 0,.string ⟨#[]⟩]) (cs:=#[.int .i64 z,.string ⟨tx.toArray⟩]) 178 (.tmp 5) (.tmp 48) row_zero rfl (by simp[Value.oneCell']) ?_)
     generalize W4.alloc (.cells #[.int .i64 z,.string ⟨tx.toArray⟩] 178)=W5 at *;generalize W4.heap.size=k5 at *;have c55:=Blk.cell ⟨_,HC5.out⟩ 5 (.slice av l.length cv) rfl;have huG:=underlying178;have hs5:w.heap.size≤W5.heap.size:=HO5.out.size;go_wp2_with (first|(refine wpList_loadS hnb 178 (.tmp 5) huG row_sizeR ?_)|(at_builtin;go_loud (refine wpList_append_elem3 rows_ty l (z,tx) HOW5.out (Below.refl w.heap.size W5) hs5 (by omega) ?_ (hone:=by simp[enRw,Value.oneCell']))))
     rintro v6 W6 hown6 hb6 hgr6 -;obtain⟨a6,n6,c6,hv6⟩:∃ a n c,v6=.slice a n c:=by obtain⟨a6,c6,e,-⟩:=hown6.shape;exact⟨_,_,_,e⟩
     subst hv6;have HC6:=Qh (heap_grown2 HC5.out HOW5.out (by decide) hgr6);have HZ6:=Qh (heap_grown2 HZ5.out HOW5.out (by decide) hgr6);have HO6:=Qh (Only.low HO5.out hb6);have HP6:=Qh (RAt.low HP5.out hkw hb6);have hcv6:=Blk.cell ⟨_,HC6.out⟩ 5 (.slice av l.length cv) rfl;have hfr6:=Blk.free ⟨_,HC6.out⟩ 5;have HC7:=Qh (set_at HC6.out 5 (.slice a6 n6 c6));have HZ7:=Qh (set_ne HZ6.out (show w.heap.size≠ks by omega) 5 (.slice a6 n6 c6));have HO7:=Qh (Only.new HO6.out ks hks 5 (.slice a6 n6 c6));have HP7:=Qh (RAt.set HP6.out hkks 5 (.slice a6 n6 c6));have OW7:=Qh (hown6.apt (by decide) HC6.out (fun b _ hne=>Below.heap_setCell _ ⟨ks,5,none⟩ (.slice a6 n6 c6) b hne));clear hown6 hb6 hgr6 hnb;go_wp2_with fail;go_roundw;case rel=>exact⟨k+1,g,l++[(z,tx)],_,q.2,by go_num,by omega,by simp only[List.length_append,List.length_cons,List.length_nil];omega,(fun ts e=>by have:=HSM.out ts e;exact⟨by omega,by omega⟩),by rw[HR1.out];exact HGO.out (z,tx) HXOK.out,HP7.out,HO7.out,HC7.out,HZ7.out,OW7.out⟩
     case measure=>simp[intOf];omega
    ·have hst:∀ ts,RSt.ok (T.drop j)=.ok ts→(headT ts).kind≠2:=fun ts e=>by cases e;exact hk2
     have e2:=bN hk2;have HST0:=Qh hst;clear hst;generalize (headT (T.drop j)).kind=K at *;go_wp2_with fail;(with_reducible refine cs.mono ?_);rintro e w2 ⟨rfl,hb⟩;have HOX:=Qh (HO1.out.trans (Only.of_below kr hb));have HPX:=Qh (HP1.out.keep hb);have HCX:=Qh (kind_at HC1.out hb);have HZX:=Qh (kind_at HZ1.out hb);have HOWX:=Qh (HOW1.out.keep hb lrf);have hst:=HST0.out;clear cs hb f2 hcp;have HV:=Qh (show R=(RSt.ok (T.drop j)).run tabX0 (KF l)by
      rw[HR1.out];exact run_rows_stop tabX0 KF (fun ts e=>Nat.le_trans (hns ts e) (HF1.out ts e).1) hst)
     clear hns;have hv:=HV.out;rw[HKF.out]at hv;dsimp only at hv;rw[run_bind (RSt.ok (T.drop j)) tok0 tabX0 (mustR [59])]at hv;have cM:=red_must 4 [59] ⟨59,[],rfl,.inr ⟨rfl,by decide⟩⟩ T hT (RSt.ok (T.drop j)) kr _ HPX.out;obtain⟨s9,hs9⟩:∃ s,s=((RSt.ok (T.drop j)).run tok0 (mustR [59])).2:=⟨_,rfl⟩
     rw[← hs9]at hv cM;have HV:=Qh (show R=s9.run tabX0 (fun ts=>.ok ⟨t.line,t.col,ib.1,ib.2,nm,l⟩ ts)from hv);clear hv hs9;go_wp2_with fail;(with_reducible refine cM.mono ?_);rintro e w9 ⟨rfl,ho,hp⟩;have HOY:=Qh (HOX.out.trans ho);have HPY:=Qh hp;have HCY:=Qh (kind_only HCX.out (by omega) ho);have HZY:=Qh (kind_only HZX.out (by omega) ho);have HOWY:=Qh (Owns.only HOWX.out hkw ho);clear cM ho hp;obtain⟨CC,hCC⟩:∃ C,C=(⟨t0.line,t0.col,ib.1,ib.2,nm,l⟩:TabD).cells (.slice av l.length cv):=⟨_,rfl⟩
     have hce:w9.heap[ks]? = some (.cells CC 111):=(by rw[hCC];exact HCY.out);have HCC:=Qh hCC;have sCC:CC.size=6:=(by rw[hCC];rfl);have uCC:CC.all (·.oneCell')=true:=(by rw[hCC];exact TabD.cells_one _ _ _ _);have bks:Blk w9 ks CC:=⟨_,hce⟩
     have bz:Blk w9 w.heap.size zeroTabD:=⟨_,HZY.out⟩
     have huS:=underlying111;clear hce hCC;go_wp2_with (first|(refine wpList_loadS bks 111 (.tmp 3) huS (by rw[sCC];exact tab_size) ?_)|(refine wpList_storeS (cs:=CC) bz 111 (.tmp 2) (.tmp 57) (by rw[sCC];exact tab_size) (by rw[sCC];rfl) uCC ?_))
     have hrun:=run_loadS (bz.row CC) 111 _ huS rfl (by rw[sCC];exact tab_size);refine bodyPost_ret (v:=.agg CC) (by simp[results,results31,Act.put,asAddr,hrun]) rfl ?_;refine⟨⟨t0.line,t0.col,ib.1,ib.2,nm,l⟩,CC,rfl,⟨.slice av l.length cv,by rw[HCC.out],HOWY.out.apt (by decide) HZY.out (fun b _ hne=>heap_setRow_other _ _ _ _ hne)⟩,HOY.out.row _ lrf CC,?_,fun hok=>?_⟩
     ·rw[HV.out];rw[(run_end s9 tabX0 _).1];exact HPY.out.row hkw CC
     ·have ht:=HMA.out (HBACK.out hok);rw[HV.out]at hok ⊢;rw[(run_end s9 tabX0 _).1]at hok;rw[(run_end s9 tabX0 _).2 hok];rw[ht]
  ·have hst:∀ ts,s1=.ok ts→(headT ts).kind≠2:=fun ts e=>by
    have h1:=(HF1.out ts e).2;have h2:=hns ts e;omega
   have HOX:=HO1;have HPX:=HP1;have HCX:=HC1;have HZX:=HZ1;have HOWX:=HOW1;have HV:=Qh (show R=s1.run tabX0 (KF l)by
    rw[HR1.out];exact run_rows_stop tabX0 KF (fun ts e=>Nat.le_trans (hns ts e) (HF1.out ts e).1) hst)
   clear hns;have hv:=HV.out;rw[HKF.out]at hv;dsimp only at hv;rw[run_bind s1 tok0 tabX0 (mustR [59])]at hv;have cM:=red_must 4 [59] ⟨59,[],rfl,.inr ⟨rfl,by decide⟩⟩ T hT s1 kr _ HPX.out;obtain⟨s9,hs9⟩:∃ s,s=(s1.run tok0 (mustR [59])).2:=⟨_,rfl⟩
   rw[← hs9]at hv cM;have HV:=Qh (show R=s9.run tabX0 (fun ts=>.ok ⟨t.line,t.col,ib.1,ib.2,nm,l⟩ ts)from hv);clear hv hs9;go_wp2_with fail;(with_reducible refine cM.mono ?_);rintro e w9 ⟨rfl,ho,hp⟩;have HOY:=Qh (HOX.out.trans ho);have HPY:=Qh hp;have HCY:=Qh (kind_only HCX.out (by omega) ho);have HZY:=Qh (kind_only HZX.out (by omega) ho);have HOWY:=Qh (Owns.only HOWX.out hkw ho);clear cM ho hp;obtain⟨CC,hCC⟩:∃ C,C=(⟨t0.line,t0.col,ib.1,ib.2,nm,l⟩:TabD).cells (.slice av l.length cv):=⟨_,rfl⟩
   have hce:w9.heap[ks]? = some (.cells CC 111):=(by rw[hCC];exact HCY.out);have HCC:=Qh hCC;have sCC:CC.size=6:=(by rw[hCC];rfl);have uCC:CC.all (·.oneCell')=true:=(by rw[hCC];exact TabD.cells_one _ _ _ _);have bks:Blk w9 ks CC:=⟨_,hce⟩
   have bz:Blk w9 w.heap.size zeroTabD:=⟨_,HZY.out⟩
   have huS:=underlying111;clear hce hCC;go_wp2_with (first|(refine wpList_loadS bks 111 (.tmp 3) huS (by rw[sCC];exact tab_size) ?_)|(refine wpList_storeS (cs:=CC) bz 111 (.tmp 2) (.tmp 57) (by rw[sCC];exact tab_size) (by rw[sCC];rfl) uCC ?_))
   have hrun:=run_loadS (bz.row CC) 111 _ huS rfl (by rw[sCC];exact tab_size);refine bodyPost_ret (v:=.agg CC) (by simp[results,results31,Act.put,asAddr,hrun]) rfl ?_;refine⟨⟨t0.line,t0.col,ib.1,ib.2,nm,l⟩,CC,rfl,⟨.slice av l.length cv,by rw[HCC.out],HOWY.out.apt (by decide) HZY.out (fun b _ hne=>heap_setRow_other _ _ _ _ hne)⟩,HOY.out.row _ lrf CC,?_,fun hok=>?_⟩
   ·rw[HV.out];rw[(run_end s9 tabX0 _).1];exact HPY.out.row hkw CC
   ·have ht:=HMA.out (HBACK.out hok);rw[HV.out]at hok ⊢;rw[(run_end s9 tabX0 _).1]at hok;rw[(run_end s9 tabX0 _).2 hok];rw[ht]
end Go.Proofs.YtlacjhjckkablaaGreatDoor
