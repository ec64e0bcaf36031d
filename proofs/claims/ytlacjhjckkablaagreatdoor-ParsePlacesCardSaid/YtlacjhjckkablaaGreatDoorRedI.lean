/-
  The reference's reader: the signal: contract. (Printed by gen_redi.py.)
-/
import Derived.Test.YtlacjhjckkablaaGreatDoorBaseD
import Derived.Test.YtlacjhjckkablaaGreatDoorRedH
import Derived.Test.YtlacjhjckkablaaGreatDoorPrsO
import Derived.Test.YtlacjhjckkablaaGreatDoorPrsK
set_option maxHeartbeats 128000000
set_option linter.unusedVariables false
namespace Go.Proofs.YtlacjhjckkablaaGreatDoor
open Go.Proofs.Tryz
open Go.RowKit
def sigX0:SigX:=⟨⟨0,0,[],0,0,0,0,false,false,0,0,0,0,0,0,0,0,[]⟩,[]⟩
theorem run_whole_lt (st:RSt) (b:Nat) (hb:0 < b):(st.run 0 (wholeR b)).1 < b:=by
 cases st with
 | bad n l c=>exact hb
 | ok ts=>
  unfold RSt.run;simp only;cases hw:wholeR b ts with
  | ok n t=>exact whole_lt hw
  | bad n l c=>exact hb
theorem red_whole31 (T:List TokD) (hT:TsW T) (st:RSt) (kr:Nat) (w:World) (h:RAt w kr T st) :
  Calls prog 84 #[.pointer (some ⟨kr,0,none⟩),.int .u64 2147483648] w fun e w'=>RPst kr w T (.int .u64 ((st.run 0 (wholeR 2147483648)).1:Nat)) (st.run 0 (wholeR 2147483648)).2 e w':=red_whole 2147483648 (by decide) T hT st kr w h
theorem run_must_at (st:RSt) (text:List UInt8) (i:Nat) (T:List TokD) (h:∀ ts,st=.ok ts→headT ts=hdT T i):(st.run tok0 (mustR text)).2.isOk→(st.run tok0 (mustR text)).1=hdT T i:=by
 cases st with
 | bad n l c=>exact fun h=>h.elim
 | ok ts=>
  rw[← h ts rfl];cases hS:seesB text ts with
  | true=>
   have e:(RSt.ok ts).run tok0 (mustR text)=(headT ts,.ok ts.tail):=by
    unfold RSt.run mustR;simp only;rw[if_pos hS]
   rw[e];exact fun _=>rfl
  | false=>
   have e:(RSt.ok ts).run tok0 (mustR text)=(tok0,(RSt.ok ts).form):=by
    unfold RSt.run mustR;simp only;rw[if_neg (by rw[hS];decide)];rfl
   rw[e];exact fun h=>(show False from h).elim
theorem run_end {α:Type} (st:RSt) (d x:α):(st.run d (fun ts=>PR.ok x ts)).2=st∧(st.isOk→(st.run d (fun ts=>PR.ok x ts)).1=x):=by
 cases st with
 | ok ts=>exact⟨rfl,fun _=>rfl⟩
 | bad n l c=>exact⟨rfl,fun h=>h.elim⟩
theorem run_to_stop {β:Type} {st:RSt} {f:Nat} {l:List (List UInt8)} (d:β) (KF:List (List UInt8)→List TokD→PR β) (hf:∀ ts,st=.ok ts→1≤f) (h:∀ ts,st=.ok ts→seesB [44] ts=false):st.run d (fun ts=>(toF f l ts).bind KF)=st.run d (KF l):=by
 cases st with
 | bad n l c=>rfl
 | ok ts=>
  obtain⟨f',rfl⟩:∃ f',f=f' + 1:=⟨f - 1,by have:=hf ts rfl;omega⟩
  unfold RSt.run;simp only;rw[show toF (f' + 1) l ts=.ok l ts by unfold toF;rw[if_neg (by rw[h ts rfl];decide)]];rfl
theorem run_to_go {β:Type} {ts:List TokD} {f:Nat} {l:List (List UInt8)} (d:β) (KF:List (List UInt8)→List TokD→PR β) (h:seesB [44] ts=true):(RSt.ok ts).run d (fun ts=>(toF (f+1) l ts).bind KF)=((RSt.ok ts.tail).run [] nameR).2.run d (fun tz=>(toF f (l++[((RSt.ok ts.tail).run [] nameR).1]) tz).bind KF):=by
 have ht:toF (f+1) l ts=(nameR ts.tail).bind fun nm ts'=>toF f (l++[nm]) ts':=by
  conv=>lhs;unfold toF
  rw[if_pos h]
 cases hn:nameR ts.tail with
 | ok x t=>
  have e:(RSt.ok ts.tail).run [] nameR=(x,.ok t):=by
   unfold RSt.run;simp only;rw[hn]
  rw[e];unfold RSt.run;simp only;rw[ht,hn];rfl
 | bad a b c=>
  have e:(RSt.ok ts.tail).run [] nameR=([],.bad a b c):=by
   unfold RSt.run;simp only;rw[hn]
  rw[e];unfold RSt.run;simp only;rw[ht,hn];rfl
theorem RAt.head {w:World} {kr:Nat} {T:List TokD} {st:RSt} (h:RAt w kr T st):∃ (i:Nat) (no l c:Int),i≤T.length∧RAtI w kr T i no l c∧∀ ts,st=.ok ts→headT ts=hdT T i:=by
 cases st with
 | ok ts=>
  obtain⟨i,hi,rfl,hr⟩:=h;exact⟨i,0,0,0,Nat.le_of_lt hi,hr,fun ts e=>by cases e;exact(hdT_ok hi).symm⟩
 | bad n l c=>
  obtain⟨h0,i,hi,hr⟩:=h;exact⟨i,n,l,c,hi,hr,fun ts e=>by cases e⟩
def SgPost (kr:Nat) (w:World) (T:List TokD) (R:SigX×RSt) (e:Ending) (w':World):Prop:=
 ∃ (x:SigX) (C:Array Value),e=.returned (.agg C)∧fdSigN w.heap.size w' x C.toList∧Only kr w w'∧RAt w' kr T R.2∧(R.2.isOk→R.1=x)
set_option maxRecDepth 100000 in theorem red_signal (T : List TokD) (hT : TsW T) (st : RSt) (kr : Nat) (w : World) (h : RAt w kr T st) :
  Calls prog 85 #[.pointer (some ⟨kr,0,none⟩)] w fun e w'=>SgPost kr w T (st.run sigX0 sigR) e w':=by
 have hpos:=hT.b.1.pos;have hlen:=hT.b.2.2;obtain⟨R,hR⟩:∃ R,R=st.run sigX0 sigR:=⟨_,rfl⟩
 rw[← hR];unfold sigR at hR;have HR:=Qh hR;clear hR;have hkw:=h.lt;have hb0:Below w.heap.size w (w.alloc (.cells zeroSig 82)):=(Below.refl _ _).alloc lrf _;have HO:=Qh (Only.of_below kr hb0);have HP:=Qh (h.keep hb0);have HZ:=Qh (heap_alloc_new w (.cells zeroSig 82));have hf2:=tk_f2;obtain⟨i,no,l0,c0,hi,hri,hhd⟩:=HP.out.head;have HHD:=Qh hhd;have cn:=red_now T hpos hlen i no l0 c0 kr _ hi hri;unfold tkV enTok at cn;have HMA:=Qh (run_must_at st [83,71,95] i T hhd);generalize hdT T i=t0 at *;clear hb0 h hri hhd;go_enter func85,ntmps85
 go_wp2_with fail;(with_reducible refine cn.mono ?_);rintro e W1 ⟨rfl,hb⟩;have HZ:=Qh (kind_at HZ.out hb);have HO:=Qh (HO.out.trans (Only.of_below kr hb));have HP:=Qh (HP.out.keep hb);clear cn hb;obtain⟨C0,hC0⟩:∃ C,C=(⟨t0.line,t0.col,[],0,0,0,0,false,false,0,0,0,0,0,0,0,0,[]⟩:SigD).cells (.slice none 0 0):=⟨_,rfl⟩
 have HC0:=Qh hC0;have sC0:C0.size=19:=(by rw[hC0];rfl);have uC0:C0.all (·.oneCell')=true:=(by rw[hC0];exact SigD.cells_one _ _ _ _);clear hC0;go_upto_region 2 with (refine wpList_newS (Z:=zeroSig) (cs:=C0) 82 (.tmp 3) (.tmp 8) (by rw[sC0];exact sig_zero) (by rw[sC0];rfl) uC0 ?_ (hy:=by rw[HC0.out];rfl))
 have hbn:Below W1.heap.size W1 (W1.alloc (.cells C0 82)):=(Below.refl _ _).alloc lrf _;have hkz:w.heap.size < W1.heap.size:=(gE HZ.out)
 have hks:w.heap.size≤W1.heap.size:=Nat.le_of_lt hkz;have hkks:kr < W1.heap.size:=(by omega);have HC:=Qh (show(W1.alloc (.cells C0 82)).heap[W1.heap.size]? = some (.cells ((⟨t0.line,t0.col,[],0,0,0,0,false,false,0,0,0,0,0,0,0,0,[]⟩:SigD).cells (.slice none 0 0)) 82)by rw[← HC0.out];exact heap_alloc_new W1 _);have HZ:=Qh (kind_at HZ.out hbn);have HO:=Qh (HO.out.trans (Only.of_below kr hbn));have HP:=Qh (HP.out.keep hbn);clear hbn;generalize hkk:W1.heap.size=ks at *;generalize W1.alloc (.cells C0 82)=W2 at *;have cc:=red_must 1 [83,71,95] ⟨_,_,rfl,.inl ⟨rfl,by decide⟩⟩ T hT st kr _ HP.out;have hr:=HR.out;rw[run_bind st tok0 sigX0 (mustR [83,71,95])]at hr;try dsimp only at hr
 have hma:=HMA.out;obtain⟨t,hx⟩:∃ x,x=(st.run tok0 (mustR [83,71,95])).1:=⟨_,rfl⟩
 obtain⟨s1,hs⟩:∃ s,s=(st.run tok0 (mustR [83,71,95])).2:=⟨_,rfl⟩
 rw[← hs]at hr;try rw[← hx]at hr
 rw[← hs,← hx]at hma;have HMA:=Qh hma;have HBACK:=Qh (fun (h:R.2.isOk)=>run_isOk (by rw[hr]at h;exact h));clear hma;rw[← hs]at cc;try rw[← hx]at cc
 have HR:=Qh hr;clear hr hx hs;go_wp2_with fail;(with_reducible refine cc.mono ?_);rintro e W3 ⟨rfl,ho,hp⟩;have HZ:=Qh (kind_only HZ.out (by omega) ho);have HC:=Qh (kind_only HC.out (by omega) ho);have HO:=Qh (HO.out.trans ho);have HP:=Qh hp;clear cc ho hp;have cc:=red_name T hT s1 kr _ HP.out;have hr:=HR.out;rw[run_bind s1 [] sigX0 (nameR)]at hr;try dsimp only at hr
 obtain⟨nm,hx⟩:∃ x,x=(s1.run [] (nameR)).1:=⟨_,rfl⟩
 obtain⟨s2,hs⟩:∃ s,s=(s1.run [] (nameR)).2:=⟨_,rfl⟩
 rw[← hs]at hr;try rw[← hx]at hr
 rw[← hs]at cc;try rw[← hx]at cc
 have HR:=Qh hr;clear hr hx hs;go_wp2_with fail;(with_reducible refine cc.mono ?_);rintro e W4 ⟨rfl,ho,hp⟩;have HZ:=Qh (kind_only HZ.out (by omega) ho);have HC:=Qh (kind_only HC.out (by omega) ho);have HO:=Qh (HO.out.trans ho);have HP:=Qh hp;clear cc ho hp;have c2:=Blk.cell ⟨_,HC.out⟩ 2 (.string ⟨#[]⟩) rfl;have r2:=Blk.free ⟨_,HC.out⟩ 2;have HC2:=Qh (show(W4.setCell ⟨ks,2,none⟩ (.string ⟨nm.toArray⟩)).heap[ks]? = some (.cells ((⟨t0.line,t0.col,nm,0,0,0,0,false,false,0,0,0,0,0,0,0,0,[]⟩:SigD).cells (.slice none 0 0)) 82)from (set_at HC.out 2 (.string ⟨nm.toArray⟩)));have HO2:=Qh (Only.new HO.out ks hks 2 (.string ⟨nm.toArray⟩));have HZ2:=Qh (set_ne HZ.out (show w.heap.size≠ks by omega) 2 (.string ⟨nm.toArray⟩));have HP2:=Qh (RAt.set HP.out hkks 2 (.string ⟨nm.toArray⟩));go_upto_region 4 with fail
 clear c2 r2;have HC:=HC2;have HO:=HO2;have HZ:=HZ2;have HP:=HP2;clear HC2 HO2 HZ2 HP2;generalize (W4.setCell ⟨ks,2,none⟩ (.string ⟨nm.toArray⟩))=W5 at *;have cc:=red_role T hT s2 kr _ HP.out;have hr:=HR.out;rw[run_bind s2 (0,0) sigX0 (roleR)]at hr;try dsimp only at hr
 obtain⟨rb,hx⟩:∃ x,x=(s2.run (0,0) (roleR)).1:=⟨_,rfl⟩
 obtain⟨s3,hs⟩:∃ s,s=(s2.run (0,0) (roleR)).2:=⟨_,rfl⟩
 rw[← hs]at hr;try rw[← hx]at hr
 rw[← hs]at cc;try rw[← hx]at cc
 have HR:=Qh hr;clear hr hx hs;go_wp2_with fail;(with_reducible refine cc.mono ?_);rintro e W6 ⟨rfl,ho,hp⟩;have HZ:=Qh (kind_only HZ.out (by omega) ho);have HC:=Qh (kind_only HC.out (by omega) ho);have HO:=Qh (HO.out.trans ho);have HP:=Qh hp;clear cc ho hp;have c3:=Blk.cell ⟨_,HC.out⟩ 3 (.int .i64 0) rfl;have r3:=Blk.free ⟨_,HC.out⟩ 3;have c4:=Blk.cell ⟨_,HC.out⟩ 4 (.int .u64 0) rfl;have r4:=Blk.free ⟨_,HC.out⟩ 4;have f3_4:∀ v,(W6.setCell ⟨ks,3,none⟩ v).cell? ⟨ks,4,none⟩=some (.int .u64 0):=fun v=>Blk.cell ⟨_,set_at HC.out 3 v⟩ 4 _ rfl
 have g3_4:∀ v,(W6.setCell ⟨ks,3,none⟩ v).frozen? ⟨ks,4,none⟩=false:=fun v=>Blk.free ⟨_,set_at HC.out 3 v⟩ 4
 have HC2:=Qh (show((W6.setCell ⟨ks,3,none⟩ (.int .i64 rb.1)).setCell ⟨ks,4,none⟩ (.int .u64 (rb.2:Nat))).heap[ks]? = some (.cells ((⟨t0.line,t0.col,nm,rb.1,rb.2,0,0,false,false,0,0,0,0,0,0,0,0,[]⟩:SigD).cells (.slice none 0 0)) 82)from (set_at (set_at HC.out 3 (.int .i64 rb.1)) 4 (.int .u64 (rb.2:Nat))));have HO2:=Qh (Only.new (Only.new HO.out ks hks 3 (.int .i64 rb.1)) ks hks 4 (.int .u64 (rb.2:Nat)));have HZ2:=Qh (set_ne (set_ne HZ.out (show w.heap.size≠ks by omega) 3 (.int .i64 rb.1)) (show w.heap.size≠ks by omega) 4 (.int .u64 (rb.2:Nat)));have HP2:=Qh (RAt.set (RAt.set HP.out hkks 3 (.int .i64 rb.1)) hkks 4 (.int .u64 (rb.2:Nat)));go_upto_region 5 with fail
 clear c3 r3 c4 r4;have HC:=HC2;have HO:=HO2;have HZ:=HZ2;have HP:=HP2;clear HC2 HO2 HZ2 HP2;generalize ((W6.setCell ⟨ks,3,none⟩ (.int .i64 rb.1)).setCell ⟨ks,4,none⟩ (.int .u64 (rb.2:Nat)))=W7 at *;have cc:=red_must 4 [58] ⟨_,[],rfl,.inr ⟨rfl,by decide⟩⟩ T hT s3 kr _ HP.out;have hr:=HR.out;rw[run_bind s3 tok0 sigX0 (mustR [58])]at hr;try dsimp only at hr
 obtain⟨k1,hx⟩:∃ x,x=(s3.run tok0 (mustR [58])).1:=⟨_,rfl⟩
 obtain⟨s4,hs⟩:∃ s,s=(s3.run tok0 (mustR [58])).2:=⟨_,rfl⟩
 rw[← hs]at hr;try rw[← hx]at hr
 rw[← hs]at cc;try rw[← hx]at cc
 have HR:=Qh hr;clear hr hx hs;go_wp2_with fail;(with_reducible refine cc.mono ?_);rintro e W8 ⟨rfl,ho,hp⟩;have HZ:=Qh (kind_only HZ.out (by omega) ho);have HC:=Qh (kind_only HC.out (by omega) ho);have HO:=Qh (HO.out.trans ho);have HP:=Qh hp;clear cc ho hp;have cc:=red_whole31 T hT s4 kr _ HP.out;have hr:=HR.out;rw[run_bind s4 0 sigX0 (wholeR 2147483648)]at hr;try dsimp only at hr
 obtain⟨sa,hx⟩:∃ x,x=(s4.run 0 (wholeR 2147483648)).1:=⟨_,rfl⟩
 obtain⟨s5,hs⟩:∃ s,s=(s4.run 0 (wholeR 2147483648)).2:=⟨_,rfl⟩
 rw[← hs]at hr;try rw[← hx]at hr
 have hlt:=run_whole_lt s4 2147483648 (by decide);rw[← hx]at hlt;rw[← hs]at cc;try rw[← hx]at cc
 have HR:=Qh hr;clear hr hx hs;go_wp2_with fail;(with_reducible refine cc.mono ?_);rintro e W9 ⟨rfl,ho,hp⟩;have HZ:=Qh (kind_only HZ.out (by omega) ho);have HC:=Qh (kind_only HC.out (by omega) ho);have HO:=Qh (HO.out.trans ho);have HP:=Qh hp;clear cc ho hp;have c5:=Blk.cell ⟨_,HC.out⟩ 5 (.int .i64 0) rfl;have r5:=Blk.free ⟨_,HC.out⟩ 5;have HC2:=Qh (show(W9.setCell ⟨ks,5,none⟩ (.int .i64 (sa:Nat))).heap[ks]? = some (.cells ((⟨t0.line,t0.col,nm,rb.1,rb.2,sa,0,false,false,0,0,0,0,0,0,0,0,[]⟩:SigD).cells (.slice none 0 0)) 82)from (set_at HC.out 5 (.int .i64 (sa:Nat))));have HO2:=Qh (Only.new HO.out ks hks 5 (.int .i64 (sa:Nat)));have HZ2:=Qh (set_ne HZ.out (show w.heap.size≠ks by omega) 5 (.int .i64 (sa:Nat)));have HP2:=Qh (RAt.set HP.out hkks 5 (.int .i64 (sa:Nat)));go_upto_region 7 with fail
 clear c5 r5;have HC:=HC2;have HO:=HO2;have HZ:=HZ2;have HP:=HP2;clear HC2 HO2 HZ2 HP2;generalize (W9.setCell ⟨ks,5,none⟩ (.int .i64 (sa:Nat)))=W10 at *;have cc:=red_must 4 [124] ⟨_,[],rfl,.inr ⟨rfl,by decide⟩⟩ T hT s5 kr _ HP.out;have hr:=HR.out;rw[run_bind s5 tok0 sigX0 (mustR [124])]at hr;try dsimp only at hr
 obtain⟨k2,hx⟩:∃ x,x=(s5.run tok0 (mustR [124])).1:=⟨_,rfl⟩
 obtain⟨s6,hs⟩:∃ s,s=(s5.run tok0 (mustR [124])).2:=⟨_,rfl⟩
 rw[← hs]at hr;try rw[← hx]at hr
 rw[← hs]at cc;try rw[← hx]at cc
 have HR:=Qh hr;clear hr hx hs;go_wp2_with fail;(with_reducible refine cc.mono ?_);rintro e W11 ⟨rfl,ho,hp⟩;have HZ:=Qh (kind_only HZ.out (by omega) ho);have HC:=Qh (kind_only HC.out (by omega) ho);have HO:=Qh (HO.out.trans ho);have HP:=Qh hp;clear cc ho hp;have cc:=red_whole31 T hT s6 kr _ HP.out;have hr:=HR.out;rw[run_bind s6 0 sigX0 (wholeR 2147483648)]at hr;try dsimp only at hr
 obtain⟨sz,hx⟩:∃ x,x=(s6.run 0 (wholeR 2147483648)).1:=⟨_,rfl⟩
 obtain⟨s7,hs⟩:∃ s,s=(s6.run 0 (wholeR 2147483648)).2:=⟨_,rfl⟩
 rw[← hs]at hr;try rw[← hx]at hr
 have hlt2:=run_whole_lt s6 2147483648 (by decide);rw[← hx]at hlt2;rw[← hs]at cc;try rw[← hx]at cc
 have HR:=Qh hr;clear hr hx hs;go_wp2_with fail;(with_reducible refine cc.mono ?_);rintro e W12 ⟨rfl,ho,hp⟩;have HZ:=Qh (kind_only HZ.out (by omega) ho);have HC:=Qh (kind_only HC.out (by omega) ho);have HO:=Qh (HO.out.trans ho);have HP:=Qh hp;clear cc ho hp;have c6:=Blk.cell ⟨_,HC.out⟩ 6 (.int .i64 0) rfl;have r6:=Blk.free ⟨_,HC.out⟩ 6;have HC2:=Qh (show(W12.setCell ⟨ks,6,none⟩ (.int .i64 (sz:Nat))).heap[ks]? = some (.cells ((⟨t0.line,t0.col,nm,rb.1,rb.2,sa,sz,false,false,0,0,0,0,0,0,0,0,[]⟩:SigD).cells (.slice none 0 0)) 82)from (set_at HC.out 6 (.int .i64 (sz:Nat))));have HO2:=Qh (Only.new HO.out ks hks 6 (.int .i64 (sz:Nat)));have HZ2:=Qh (set_ne HZ.out (show w.heap.size≠ks by omega) 6 (.int .i64 (sz:Nat)));have HP2:=Qh (RAt.set HP.out hkks 6 (.int .i64 (sz:Nat)));go_upto_region 9 with fail
 clear c6 r6;have HC:=HC2;have HO:=HO2;have HZ:=HZ2;have HP:=HP2;clear HC2 HO2 HZ2 HP2;generalize (W12.setCell ⟨ks,6,none⟩ (.int .i64 (sz:Nat)))=W13 at *;have cc:=red_order T hT s7 kr _ HP.out;have hr:=HR.out;rw[run_bind s7 [] sigX0 (orderR)]at hr;try dsimp only at hr
 obtain⟨od,hx⟩:∃ x,x=(s7.run [] (orderR)).1:=⟨_,rfl⟩
 obtain⟨s8,hs⟩:∃ s,s=(s7.run [] (orderR)).2:=⟨_,rfl⟩
 rw[← hs]at hr;try rw[← hx]at hr
 rw[← hs]at cc;try rw[← hx]at cc
 have HR:=Qh hr;clear hr hx hs;go_wp2_with fail;(with_reducible refine cc.mono ?_);rintro e W14 ⟨rfl,ho,hp⟩;have HZ:=Qh (kind_only HZ.out (by omega) ho);have HC:=Qh (kind_only HC.out (by omega) ho);have HO:=Qh (HO.out.trans ho);have HP:=Qh hp;clear cc ho hp;generalize hM1:(od[1]? == some 48)=M1 at *;generalize hM2:(od[2]? == some 45)=M2 at *;have HM1:=Qh hM1;have HM2:=Qh hM2;clear hM1 hM2;have c7:=Blk.cell ⟨_,HC.out⟩ 7 (.bool false) rfl;have r7:=Blk.free ⟨_,HC.out⟩ 7;have c8:=Blk.cell ⟨_,HC.out⟩ 8 (.bool false) rfl;have r8:=Blk.free ⟨_,HC.out⟩ 8;have f7_8:∀ v,(W14.setCell ⟨ks,7,none⟩ v).cell? ⟨ks,8,none⟩=some (.bool false):=fun v=>Blk.cell ⟨_,set_at HC.out 7 v⟩ 8 _ rfl
 have g7_8:∀ v,(W14.setCell ⟨ks,7,none⟩ v).frozen? ⟨ks,8,none⟩=false:=fun v=>Blk.free ⟨_,set_at HC.out 7 v⟩ 8
 have HC2:=Qh (show((W14.setCell ⟨ks,7,none⟩ (.bool M1)).setCell ⟨ks,8,none⟩ (.bool M2)).heap[ks]? = some (.cells ((⟨t0.line,t0.col,nm,rb.1,rb.2,sa,sz,M1,M2,0,0,0,0,0,0,0,0,[]⟩:SigD).cells (.slice none 0 0)) 82)from (set_at (set_at HC.out 7 (.bool M1)) 8 (.bool M2)));have HO2:=Qh (Only.new (Only.new HO.out ks hks 7 (.bool M1)) ks hks 8 (.bool M2));have HZ2:=Qh (set_ne (set_ne HZ.out (show w.heap.size≠ks by omega) 7 (.bool M1)) (show w.heap.size≠ks by omega) 8 (.bool M2));have HP2:=Qh (RAt.set (RAt.set HP.out hkks 7 (.bool M1)) hkks 8 (.bool M2));go_upto_region 10 with fail
 clear c7 r7 c8 r8;have HC:=HC2;have HO:=HO2;have HZ:=HZ2;have HP:=HP2;clear HC2 HO2 HZ2 HP2;generalize ((W14.setCell ⟨ks,7,none⟩ (.bool M1)).setCell ⟨ks,8,none⟩ (.bool M2))=W15 at *;have cc:=red_must 4 [40] ⟨_,[],rfl,.inr ⟨rfl,by decide⟩⟩ T hT s8 kr _ HP.out;have hr:=HR.out;rw[run_bind s8 tok0 sigX0 (mustR [40])]at hr;try dsimp only at hr
 obtain⟨k3,hx⟩:∃ x,x=(s8.run tok0 (mustR [40])).1:=⟨_,rfl⟩
 obtain⟨s9,hs⟩:∃ s,s=(s8.run tok0 (mustR [40])).2:=⟨_,rfl⟩
 rw[← hs]at hr;try rw[← hx]at hr
 rw[← hs]at cc;try rw[← hx]at cc
 have HR:=Qh hr;clear hr hx hs;go_wp2_with fail;(with_reducible refine cc.mono ?_);rintro e W16 ⟨rfl,ho,hp⟩;have HZ:=Qh (kind_only HZ.out (by omega) ho);have HC:=Qh (kind_only HC.out (by omega) ho);have HO:=Qh (HO.out.trans ho);have HP:=Qh hp;clear cc ho hp;have cc:=red_frac T hT s9 kr _ HP.out;have hr:=HR.out;rw[run_bind s9 (0,0) sigX0 (fracR)]at hr;try dsimp only at hr
 obtain⟨sc,hx⟩:∃ x,x=(s9.run (0,0) (fracR)).1:=⟨_,rfl⟩
 obtain⟨s10,hs⟩:∃ s,s=(s9.run (0,0) (fracR)).2:=⟨_,rfl⟩
 rw[← hs]at hr;try rw[← hx]at hr
 rw[← hs]at cc;try rw[← hx]at cc
 have HR:=Qh hr;clear hr hx hs;go_wp2_with fail;(with_reducible refine cc.mono ?_);rintro e W17 ⟨rfl,ho,hp⟩;have HZ:=Qh (kind_only HZ.out (by omega) ho);have HC:=Qh (kind_only HC.out (by omega) ho);have HO:=Qh (HO.out.trans ho);have HP:=Qh hp;clear cc ho hp;have c9:=Blk.cell ⟨_,HC.out⟩ 9 (.int .i64 0) rfl;have r9:=Blk.free ⟨_,HC.out⟩ 9;have c10:=Blk.cell ⟨_,HC.out⟩ 10 (.int .i64 0) rfl;have r10:=Blk.free ⟨_,HC.out⟩ 10;have f9_10:∀ v,(W17.setCell ⟨ks,9,none⟩ v).cell? ⟨ks,10,none⟩=some (.int .i64 0):=fun v=>Blk.cell ⟨_,set_at HC.out 9 v⟩ 10 _ rfl
 have g9_10:∀ v,(W17.setCell ⟨ks,9,none⟩ v).frozen? ⟨ks,10,none⟩=false:=fun v=>Blk.free ⟨_,set_at HC.out 9 v⟩ 10
 have HC2:=Qh (show((W17.setCell ⟨ks,9,none⟩ (.int .i64 sc.1)).setCell ⟨ks,10,none⟩ (.int .i64 sc.2)).heap[ks]? = some (.cells ((⟨t0.line,t0.col,nm,rb.1,rb.2,sa,sz,M1,M2,sc.1,sc.2,0,0,0,0,0,0,[]⟩:SigD).cells (.slice none 0 0)) 82)from (set_at (set_at HC.out 9 (.int .i64 sc.1)) 10 (.int .i64 sc.2)));have HO2:=Qh (Only.new (Only.new HO.out ks hks 9 (.int .i64 sc.1)) ks hks 10 (.int .i64 sc.2));have HZ2:=Qh (set_ne (set_ne HZ.out (show w.heap.size≠ks by omega) 9 (.int .i64 sc.1)) (show w.heap.size≠ks by omega) 10 (.int .i64 sc.2));have HP2:=Qh (RAt.set (RAt.set HP.out hkks 9 (.int .i64 sc.1)) hkks 10 (.int .i64 sc.2));go_upto_region 12 with fail
 clear c9 r9 c10 r10;have HC:=HC2;have HO:=HO2;have HZ:=HZ2;have HP:=HP2;clear HC2 HO2 HZ2 HP2;generalize ((W17.setCell ⟨ks,9,none⟩ (.int .i64 sc.1)).setCell ⟨ks,10,none⟩ (.int .i64 sc.2))=W18 at *;have cc:=red_must 4 [44] ⟨_,[],rfl,.inr ⟨rfl,by decide⟩⟩ T hT s10 kr _ HP.out;have hr:=HR.out;rw[run_bind s10 tok0 sigX0 (mustR [44])]at hr;try dsimp only at hr
 obtain⟨k4,hx⟩:∃ x,x=(s10.run tok0 (mustR [44])).1:=⟨_,rfl⟩
 obtain⟨s11,hs⟩:∃ s,s=(s10.run tok0 (mustR [44])).2:=⟨_,rfl⟩
 rw[← hs]at hr;try rw[← hx]at hr
 rw[← hs]at cc;try rw[← hx]at cc
 have HR:=Qh hr;clear hr hx hs;go_wp2_with fail;(with_reducible refine cc.mono ?_);rintro e W19 ⟨rfl,ho,hp⟩;have HZ:=Qh (kind_only HZ.out (by omega) ho);have HC:=Qh (kind_only HC.out (by omega) ho);have HO:=Qh (HO.out.trans ho);have HP:=Qh hp;clear cc ho hp;have cc:=red_frac T hT s11 kr _ HP.out;have hr:=HR.out;rw[run_bind s11 (0,0) sigX0 (fracR)]at hr;try dsimp only at hr
 obtain⟨ofs,hx⟩:∃ x,x=(s11.run (0,0) (fracR)).1:=⟨_,rfl⟩
 obtain⟨s12,hs⟩:∃ s,s=(s11.run (0,0) (fracR)).2:=⟨_,rfl⟩
 rw[← hs]at hr;try rw[← hx]at hr
 rw[← hs]at cc;try rw[← hx]at cc
 have HR:=Qh hr;clear hr hx hs;go_wp2_with fail;(with_reducible refine cc.mono ?_);rintro e W20 ⟨rfl,ho,hp⟩;have HZ:=Qh (kind_only HZ.out (by omega) ho);have HC:=Qh (kind_only HC.out (by omega) ho);have HO:=Qh (HO.out.trans ho);have HP:=Qh hp;clear cc ho hp;have c11:=Blk.cell ⟨_,HC.out⟩ 11 (.int .i64 0) rfl;have r11:=Blk.free ⟨_,HC.out⟩ 11;have c12:=Blk.cell ⟨_,HC.out⟩ 12 (.int .i64 0) rfl;have r12:=Blk.free ⟨_,HC.out⟩ 12;have f11_12:∀ v,(W20.setCell ⟨ks,11,none⟩ v).cell? ⟨ks,12,none⟩=some (.int .i64 0):=fun v=>Blk.cell ⟨_,set_at HC.out 11 v⟩ 12 _ rfl
 have g11_12:∀ v,(W20.setCell ⟨ks,11,none⟩ v).frozen? ⟨ks,12,none⟩=false:=fun v=>Blk.free ⟨_,set_at HC.out 11 v⟩ 12
 have HC2:=Qh (show((W20.setCell ⟨ks,11,none⟩ (.int .i64 ofs.1)).setCell ⟨ks,12,none⟩ (.int .i64 ofs.2)).heap[ks]? = some (.cells ((⟨t0.line,t0.col,nm,rb.1,rb.2,sa,sz,M1,M2,sc.1,sc.2,ofs.1,ofs.2,0,0,0,0,[]⟩:SigD).cells (.slice none 0 0)) 82)from (set_at (set_at HC.out 11 (.int .i64 ofs.1)) 12 (.int .i64 ofs.2)));have HO2:=Qh (Only.new (Only.new HO.out ks hks 11 (.int .i64 ofs.1)) ks hks 12 (.int .i64 ofs.2));have HZ2:=Qh (set_ne (set_ne HZ.out (show w.heap.size≠ks by omega) 11 (.int .i64 ofs.1)) (show w.heap.size≠ks by omega) 12 (.int .i64 ofs.2));have HP2:=Qh (RAt.set (RAt.set HP.out hkks 11 (.int .i64 ofs.1)) hkks 12 (.int .i64 ofs.2));go_upto_region 14 with fail
 clear c11 r11 c12 r12;have HC:=HC2;have HO:=HO2;have HZ:=HZ2;have HP:=HP2;clear HC2 HO2 HZ2 HP2;generalize ((W20.setCell ⟨ks,11,none⟩ (.int .i64 ofs.1)).setCell ⟨ks,12,none⟩ (.int .i64 ofs.2))=W21 at *;have cc:=red_must 4 [41] ⟨_,[],rfl,.inr ⟨rfl,by decide⟩⟩ T hT s12 kr _ HP.out;have hr:=HR.out;rw[run_bind s12 tok0 sigX0 (mustR [41])]at hr;try dsimp only at hr
 obtain⟨k5,hx⟩:∃ x,x=(s12.run tok0 (mustR [41])).1:=⟨_,rfl⟩
 obtain⟨s13,hs⟩:∃ s,s=(s12.run tok0 (mustR [41])).2:=⟨_,rfl⟩
 rw[← hs]at hr;try rw[← hx]at hr
 rw[← hs]at cc;try rw[← hx]at cc
 have HR:=Qh hr;clear hr hx hs;go_wp2_with fail;(with_reducible refine cc.mono ?_);rintro e W22 ⟨rfl,ho,hp⟩;have HZ:=Qh (kind_only HZ.out (by omega) ho);have HC:=Qh (kind_only HC.out (by omega) ho);have HO:=Qh (HO.out.trans ho);have HP:=Qh hp;clear cc ho hp;have cc:=red_must 4 [91] ⟨_,[],rfl,.inr ⟨rfl,by decide⟩⟩ T hT s13 kr _ HP.out;have hr:=HR.out;rw[run_bind s13 tok0 sigX0 (mustR [91])]at hr;try dsimp only at hr
 obtain⟨k6,hx⟩:∃ x,x=(s13.run tok0 (mustR [91])).1:=⟨_,rfl⟩
 obtain⟨s14,hs⟩:∃ s,s=(s13.run tok0 (mustR [91])).2:=⟨_,rfl⟩
 rw[← hs]at hr;try rw[← hx]at hr
 rw[← hs]at cc;try rw[← hx]at cc
 have HR:=Qh hr;clear hr hx hs;go_wp2_with fail;(with_reducible refine cc.mono ?_);rintro e W23 ⟨rfl,ho,hp⟩;have HZ:=Qh (kind_only HZ.out (by omega) ho);have HC:=Qh (kind_only HC.out (by omega) ho);have HO:=Qh (HO.out.trans ho);have HP:=Qh hp;clear cc ho hp;have cc:=red_frac T hT s14 kr _ HP.out;have hr:=HR.out;rw[run_bind s14 (0,0) sigX0 (fracR)]at hr;try dsimp only at hr
 obtain⟨mi,hx⟩:∃ x,x=(s14.run (0,0) (fracR)).1:=⟨_,rfl⟩
 obtain⟨s15,hs⟩:∃ s,s=(s14.run (0,0) (fracR)).2:=⟨_,rfl⟩
 rw[← hs]at hr;try rw[← hx]at hr
 rw[← hs]at cc;try rw[← hx]at cc
 have HR:=Qh hr;clear hr hx hs;go_wp2_with fail;(with_reducible refine cc.mono ?_);rintro e W24 ⟨rfl,ho,hp⟩;have HZ:=Qh (kind_only HZ.out (by omega) ho);have HC:=Qh (kind_only HC.out (by omega) ho);have HO:=Qh (HO.out.trans ho);have HP:=Qh hp;clear cc ho hp;have c13:=Blk.cell ⟨_,HC.out⟩ 13 (.int .i64 0) rfl;have r13:=Blk.free ⟨_,HC.out⟩ 13;have c14:=Blk.cell ⟨_,HC.out⟩ 14 (.int .i64 0) rfl;have r14:=Blk.free ⟨_,HC.out⟩ 14;have f13_14:∀ v,(W24.setCell ⟨ks,13,none⟩ v).cell? ⟨ks,14,none⟩=some (.int .i64 0):=fun v=>Blk.cell ⟨_,set_at HC.out 13 v⟩ 14 _ rfl
 have g13_14:∀ v,(W24.setCell ⟨ks,13,none⟩ v).frozen? ⟨ks,14,none⟩=false:=fun v=>Blk.free ⟨_,set_at HC.out 13 v⟩ 14
 have HC2:=Qh (show((W24.setCell ⟨ks,13,none⟩ (.int .i64 mi.1)).setCell ⟨ks,14,none⟩ (.int .i64 mi.2)).heap[ks]? = some (.cells ((⟨t0.line,t0.col,nm,rb.1,rb.2,sa,sz,M1,M2,sc.1,sc.2,ofs.1,ofs.2,mi.1,mi.2,0,0,[]⟩:SigD).cells (.slice none 0 0)) 82)from (set_at (set_at HC.out 13 (.int .i64 mi.1)) 14 (.int .i64 mi.2)));have HO2:=Qh (Only.new (Only.new HO.out ks hks 13 (.int .i64 mi.1)) ks hks 14 (.int .i64 mi.2));have HZ2:=Qh (set_ne (set_ne HZ.out (show w.heap.size≠ks by omega) 13 (.int .i64 mi.1)) (show w.heap.size≠ks by omega) 14 (.int .i64 mi.2));have HP2:=Qh (RAt.set (RAt.set HP.out hkks 13 (.int .i64 mi.1)) hkks 14 (.int .i64 mi.2));go_upto_region 17 with fail
 clear c13 r13 c14 r14;have HC:=HC2;have HO:=HO2;have HZ:=HZ2;have HP:=HP2;clear HC2 HO2 HZ2 HP2;generalize ((W24.setCell ⟨ks,13,none⟩ (.int .i64 mi.1)).setCell ⟨ks,14,none⟩ (.int .i64 mi.2))=W25 at *;have cc:=red_must 4 [124] ⟨_,[],rfl,.inr ⟨rfl,by decide⟩⟩ T hT s15 kr _ HP.out;have hr:=HR.out;rw[run_bind s15 tok0 sigX0 (mustR [124])]at hr;try dsimp only at hr
 obtain⟨k7,hx⟩:∃ x,x=(s15.run tok0 (mustR [124])).1:=⟨_,rfl⟩
 obtain⟨s16,hs⟩:∃ s,s=(s15.run tok0 (mustR [124])).2:=⟨_,rfl⟩
 rw[← hs]at hr;try rw[← hx]at hr
 rw[← hs]at cc;try rw[← hx]at cc
 have HR:=Qh hr;clear hr hx hs;go_wp2_with fail;(with_reducible refine cc.mono ?_);rintro e W26 ⟨rfl,ho,hp⟩;have HZ:=Qh (kind_only HZ.out (by omega) ho);have HC:=Qh (kind_only HC.out (by omega) ho);have HO:=Qh (HO.out.trans ho);have HP:=Qh hp;clear cc ho hp;have cc:=red_frac T hT s16 kr _ HP.out;have hr:=HR.out;rw[run_bind s16 (0,0) sigX0 (fracR)]at hr;try dsimp only at hr
 obtain⟨ma,hx⟩:∃ x,x=(s16.run (0,0) (fracR)).1:=⟨_,rfl⟩
 obtain⟨s17,hs⟩:∃ s,s=(s16.run (0,0) (fracR)).2:=⟨_,rfl⟩
 rw[← hs]at hr;try rw[← hx]at hr
 rw[← hs]at cc;try rw[← hx]at cc
 have HR:=Qh hr;clear hr hx hs;go_wp2_with fail;(with_reducible refine cc.mono ?_);rintro e W27 ⟨rfl,ho,hp⟩;have HZ:=Qh (kind_only HZ.out (by omega) ho);have HC:=Qh (kind_only HC.out (by omega) ho);have HO:=Qh (HO.out.trans ho);have HP:=Qh hp;clear cc ho hp;have c15:=Blk.cell ⟨_,HC.out⟩ 15 (.int .i64 0) rfl;have r15:=Blk.free ⟨_,HC.out⟩ 15;have c16:=Blk.cell ⟨_,HC.out⟩ 16 (.int .i64 0) rfl;have r16:=Blk.free ⟨_,HC.out⟩ 16;have f15_16:∀ v,(W27.setCell ⟨ks,15,none⟩ v).cell? ⟨ks,16,none⟩=some (.int .i64 0):=fun v=>Blk.cell ⟨_,set_at HC.out 15 v⟩ 16 _ rfl
 have g15_16:∀ v,(W27.setCell ⟨ks,15,none⟩ v).frozen? ⟨ks,16,none⟩=false:=fun v=>Blk.free ⟨_,set_at HC.out 15 v⟩ 16
 have HC2:=Qh (show((W27.setCell ⟨ks,15,none⟩ (.int .i64 ma.1)).setCell ⟨ks,16,none⟩ (.int .i64 ma.2)).heap[ks]? = some (.cells ((⟨t0.line,t0.col,nm,rb.1,rb.2,sa,sz,M1,M2,sc.1,sc.2,ofs.1,ofs.2,mi.1,mi.2,ma.1,ma.2,[]⟩:SigD).cells (.slice none 0 0)) 82)from (set_at (set_at HC.out 15 (.int .i64 ma.1)) 16 (.int .i64 ma.2)));have HO2:=Qh (Only.new (Only.new HO.out ks hks 15 (.int .i64 ma.1)) ks hks 16 (.int .i64 ma.2));have HZ2:=Qh (set_ne (set_ne HZ.out (show w.heap.size≠ks by omega) 15 (.int .i64 ma.1)) (show w.heap.size≠ks by omega) 16 (.int .i64 ma.2));have HP2:=Qh (RAt.set (RAt.set HP.out hkks 15 (.int .i64 ma.1)) hkks 16 (.int .i64 ma.2));go_upto_region 19 with fail
 clear c15 r15 c16 r16;have HC:=HC2;have HO:=HO2;have HZ:=HZ2;have HP:=HP2;clear HC2 HO2 HZ2 HP2;generalize ((W27.setCell ⟨ks,15,none⟩ (.int .i64 ma.1)).setCell ⟨ks,16,none⟩ (.int .i64 ma.2))=W28 at *;have cc:=red_must 4 [93] ⟨_,[],rfl,.inr ⟨rfl,by decide⟩⟩ T hT s17 kr _ HP.out;have hr:=HR.out;rw[run_bind s17 tok0 sigX0 (mustR [93])]at hr;try dsimp only at hr
 obtain⟨k8,hx⟩:∃ x,x=(s17.run tok0 (mustR [93])).1:=⟨_,rfl⟩
 obtain⟨s18,hs⟩:∃ s,s=(s17.run tok0 (mustR [93])).2:=⟨_,rfl⟩
 rw[← hs]at hr;try rw[← hx]at hr
 rw[← hs]at cc;try rw[← hx]at cc
 have HR:=Qh hr;clear hr hx hs;go_wp2_with fail;(with_reducible refine cc.mono ?_);rintro e W29 ⟨rfl,ho,hp⟩;have HZ:=Qh (kind_only HZ.out (by omega) ho);have HC:=Qh (kind_only HC.out (by omega) ho);have HO:=Qh (HO.out.trans ho);have HP:=Qh hp;clear cc ho hp;have cc:=red_text T hT s18 kr _ HP.out;have hr:=HR.out;rw[run_bind s18 tok0 sigX0 (nextR 3)]at hr;try dsimp only at hr
 obtain⟨u,hx⟩:∃ x,x=(s18.run tok0 (nextR 3)).1:=⟨_,rfl⟩
 obtain⟨s19,hs⟩:∃ s,s=(s18.run tok0 (nextR 3)).2:=⟨_,rfl⟩
 rw[← hs]at hr;try rw[← hx]at hr
 rw[← hs]at cc;try rw[← hx]at cc
 have HR:=Qh hr;clear hr hx hs;go_wp2_with fail;(with_reducible refine cc.mono ?_);rintro e W30 ⟨rfl,ho,hp⟩;have HZ:=Qh (kind_only HZ.out (by omega) ho);have HC:=Qh (kind_only HC.out (by omega) ho);have HO:=Qh (HO.out.trans ho);have HP:=Qh hp;clear cc ho hp;have c17:=Blk.cell ⟨_,HC.out⟩ 17 (.string ⟨#[]⟩) rfl;have r17:=Blk.free ⟨_,HC.out⟩ 17;have HC2:=Qh (show(W30.setCell ⟨ks,17,none⟩ (.string ⟨u.text.toArray⟩)).heap[ks]? = some (.cells ((⟨t0.line,t0.col,nm,rb.1,rb.2,sa,sz,M1,M2,sc.1,sc.2,ofs.1,ofs.2,mi.1,mi.2,ma.1,ma.2,u.text⟩:SigD).cells (.slice none 0 0)) 82)from (set_at HC.out 17 (.string ⟨u.text.toArray⟩)));have HO2:=Qh (Only.new HO.out ks hks 17 (.string ⟨u.text.toArray⟩));have HZ2:=Qh (set_ne HZ.out (show w.heap.size≠ks by omega) 17 (.string ⟨u.text.toArray⟩));have HP2:=Qh (RAt.set HP.out hkks 17 (.string ⟨u.text.toArray⟩));go_upto_region 21 with fail
 clear c17 r17;have HC:=HC2;have HO:=HO2;have HZ:=HZ2;have HP:=HP2;clear HC2 HO2 HZ2 HP2;generalize (W30.setCell ⟨ks,17,none⟩ (.string ⟨u.text.toArray⟩))=W31 at *;have HOd:=Qh (HO.out.trans (Only.of_below kr (Below.refl W31.heap.size W31).drew));have HPd:=Qh (HP.out.keep (Below.refl W31.heap.size W31).drew);have cn:=red_name T hT s19 kr W31.drew HPd.out;have hr:=HR.out;rw[run_bind s19 [] sigX0 nameR]at hr;try dsimp only at hr
 obtain⟨n1,hx⟩:∃ x,x=(s19.run [] nameR).1:=⟨_,rfl⟩
 obtain⟨sm,hs⟩:∃ s,s=(s19.run [] nameR).2:=⟨_,rfl⟩
 rw[← hx,← hs]at hr cn;have HR:=Qh hr;clear hr hx hs;have c18:=Blk.cell ⟨_,HC.out⟩ 18 (.slice none 0 0) rfl;have HOWN:=Qh (Owns.nil W31 w.heap.size 9 1 enTx);have HCe:=HC;have HZe:=HZ;refine wp_region_heldL 7 (fun (w':World)=>w'.cell? ⟨ks,18,none⟩=some (.slice none 0 0)) (by kernel_rfl) c18 (fun hHeld=>?_);refine hL 0 ?_;try simp only[spt]
 refine hL 1 ?_;try simp only[spt]
 refine hL 2 ?_;try simp only[spt]
 refine heldL_call 3 rfl (by kernel_rfl) (fun K hK=>?_);go_simp;(with_reducible refine cn.mono ?_);rintro e W41 ⟨rfl,ho,hp⟩;have HC41:=Qh (kind_only (W:=W31.drew) HCe.out (by omega) ho);have HZ41:=Qh (kind_only (W:=W31.drew) HZe.out (by omega) ho);have HO41:=Qh (HOd.out.trans ho);have HP41:=Qh hp;have HW41:=Qh (Owns.only (W:=W31.drew) (HOWN.out.keep (Below.refl W31.heap.size W31).drew lrf) hkw ho);have c18b:=Blk.cell ⟨_,HC41.out⟩ 18 (.slice none 0 0) rfl;have hb5:Below W41.heap.size W41 (W41.alloc (.cells #[.string ⟨n1.toArray⟩] 9)):=(Below.refl _ _).alloc lrf _;clear cn ho hp;clear hHeld;refine hK.out _ _ ?_ (fun hHeld=>?_)
 ·exact c18b
 clear hK K;try simp only[spt]
 refine heldL_call 4 rfl (by kernel_rfl) (fun K hK=>?_);go_simp;clear hHeld;refine hK.out _ _ ?_ (fun hHeld=>?_)
 ·exact cell_keep' c18b hb5
 clear hK K;try simp only[spt]
 refine heldL_call 5 rfl (by kernel_rfl) (fun K hK=>?_);have HC42:=Qh (kind_at HC41.out hb5);have HZ42:=Qh (kind_at HZ41.out hb5);have HO42:=Qh (HO41.out.trans (Only.of_below kr hb5));have HP42:=Qh (HP41.out.keep hb5);have HW42:=Qh (HW41.out.keep hb5 lrf);have hn42:=heap_alloc_new W41 (.cells #[.string ⟨n1.toArray⟩] 9);have hs42:w.heap.size≤(W41.alloc (.cells #[.string ⟨n1.toArray⟩] 9)).heap.size:=HO42.out.size;clear hb5;generalize W41.alloc (.cells #[.string ⟨n1.toArray⟩] 9)=W42 at *;refine step_append_elem (en:=enTx) txs_ty [] n1 (g:=W41.heap.size) HW42.out (Below.refl w.heap.size W42) hs42 (by simp) hn42 ?_ (hone:=by simp[enTx,Value.oneCell']);rintro v5 w5 hown5 hb6 hgr5 -;obtain⟨a5,n5,c5,hv5⟩:∃ a n c,v5=.slice a n c:=by obtain⟨a5,c5,e,-⟩:=hown5.shape;exact⟨_,_,_,e⟩
 subst hv5;have HC5:=Qh (heap_grown2 HC42.out HW42.out (by decide) hgr5);have HZ5:=Qh (heap_grown2 HZ42.out HW42.out (by decide) hgr5);have HO5:=Qh (Only.low HO42.out hb6);have HP5:=Qh (RAt.low HP42.out hkw hb6);have hcv5:=Blk.cell ⟨_,HC5.out⟩ 18 (.slice none 0 0) rfl;have hfr5:=Blk.free ⟨_,HC5.out⟩ 18;clear hb6 hgr5 hn42 hs42;clear hHeld;refine hK.out _ _ ?_ (fun hHeld=>?_)
 ·exact hcv5
 clear hK K;try simp only[spt]
 refine hL 6 ?_;try simp only[spt]
 refine heldL_last 7 rfl (by kernel_rfl) (by kernel_rfl) (fun K hK=>?_);go_simp;refine hK.out _ _ ?_;clear hK K;try simp only[spt]
 refine wpAnyL_done (by kernel_rfl) ?_ _;have HC6:=Qh (set_at HC5.out 18 (.slice a5 n5 c5));have HZ6:=Qh (set_ne HZ5.out (show w.heap.size≠ks by omega) 18 (.slice a5 n5 c5));have HO6:=Qh (Only.new HO5.out ks hks 18 (.slice a5 n5 c5));have HP6:=Qh (RAt.set HP5.out hkks 18 (.slice a5 n5 c5));have OW6:=Qh (hown5.apt (by decide) HC5.out (fun b _ hne=>Below.heap_setCell _ ⟨ks,18,none⟩ (.slice a5 n5 c5) b hne));clear hown5 hcv5 hfr5 c18 c18b;generalize W5c:w5.setCell ⟨ks,18,none⟩ (.slice a5 n5 c5)=W50 at *;clear W5c;obtain⟨KF,hKR,hKF⟩:∃ KF:List (List UInt8)→List TokD→PR SigX,R=sm.run sigX0 (fun ts=>(toF ts.length [n1] ts).bind KF)∧KF=fun rcv ts=>.ok ⟨⟨t.line,t.col,nm,rb.1,rb.2,sa,sz,M1,M2,sc.1,sc.2,ofs.1,ofs.2,mi.1,mi.2,ma.1,ma.2,u.text⟩,rcv⟩ ts:=⟨_,HR.out,rfl⟩
 have HKF:=Qh hKF;obtain⟨fu,hfu1,hfu2⟩:∃ fu:Nat,(∀ ts,sm=.ok ts→ts.length≤fu∧0+ts.length≤T.length)∧R=sm.run sigX0 (fun ts=>(toF fu [n1] ts).bind KF):=by
  cases sm with
  | bad a b c=>exact⟨0,(fun ts e=>by cases e),hKR⟩
  | ok ts=>
   obtain⟨j,hj,rfl,-⟩:=HP6.out;exact⟨(T.drop j).length,(fun ts e=>by cases e;exact⟨lrf,by rw[List.length_drop];omega⟩),hKR⟩
 have HFU1:=Qh hfu1;have HFU2:=Qh hfu2;clear hKR hKF hfu1 hfu2;go_wp2_with fail;go_loopw [4] (fun kv wr=>∃ (k fu:Nat) (l:List (List UInt8)) (v:Value) (s1:RSt),kv=.int .i64 (k:Nat)∧k≤T.length∧l.length≤k+1∧(∀ ts,s1=.ok ts→ts.length≤fu∧k+ts.length≤T.length)∧R=s1.run sigX0 (fun ts=>(toF fu l ts).bind KF)∧RAt wr kr T s1∧Only kr w wr∧wr.heap[ks]? = some (.cells ((⟨t0.line,t0.col,nm,rb.1,rb.2,sa,sz,M1,M2,sc.1,sc.2,ofs.1,ofs.2,mi.1,mi.2,ma.1,ma.2,u.text⟩:SigD).cells (v)) 82)∧wr.heap[w.heap.size]? = some (.cells zeroSig 82)∧Owns wr w.heap.size 9 1 enTx v l) (fun kv _=>T.length - (intOf kv).toNat)
 case atStart=>exact⟨0,fu,[n1],_,sm,rfl,Nat.zero_le _,by simp,HFU1.out,HFU2.out,HP6.out,HO6.out,HC6.out,HZ6.out,OW6.out⟩
 case round=>
  obtain⟨k,fu',l,v,s1,rfl,hk,hlk,hf,hr1,hp1,ho1,hc1,hz1,hown⟩:=hrel;obtain⟨ap,capp,hcp⟩:=hp1.cell0;have HO1:=Qh ho1;have HP1:=Qh hp1;have HF1:=Qh hf;have HR1:=Qh hr1;have HC1:=Qh hc1;have HZ1:=Qh hz1;have HOW1:=Qh hown;have hns:∀ ts,s1=.ok ts→1≤ts.length:=fun ts e=>by
   subst e;obtain⟨i,hi,rfl,-⟩:=HP1.out;rw[List.length_drop];omega
  obtain⟨av,cv,rfl,-⟩:=HOW1.out.shape;clear hp1 ho1 hf hr1 hc1 hz1 hown;by_cases hkl:(k:Int) < T.length
  ·have cs:=red_sees 4 [44] T hT s1 kr wr HP1.out;cases hS:s1.sees 4 [44]with
   | false=>
    have hst:∀ ts,s1=.ok ts→seesB [44] ts=false:=fun ts e=>by
     subst e;obtain⟨j,hj,rfl,-⟩:=HP1.out;rw[← sees_eq hT hj (k:=4) ⟨44,[],rfl,.inr ⟨rfl,by decide⟩⟩];exact hS
    rw[hS]at cs;clear hS;go_wp2_with fail;(with_reducible refine cs.mono ?_);rintro e w2 ⟨rfl,hb⟩;have HOX:=Qh (HO1.out.trans (Only.of_below kr hb));have HPX:=Qh (HP1.out.keep hb);have HCX:=Qh (kind_at HC1.out hb);have HZX:=Qh (kind_at HZ1.out hb);have HOWX:=Qh (HOW1.out.keep hb lrf);clear cs hb;have HV:=Qh (show R=s1.run sigX0 (KF l)by
     rw[HR1.out];exact run_to_stop sigX0 KF (fun ts e=>Nat.le_trans (hns ts e) (HF1.out ts e).1) hst)
    clear hns;obtain⟨CC,hCC⟩:∃ C,C=(⟨t0.line,t0.col,nm,rb.1,rb.2,sa,sz,M1,M2,sc.1,sc.2,ofs.1,ofs.2,mi.1,mi.2,ma.1,ma.2,u.text⟩:SigD).cells (.slice av l.length cv):=⟨_,rfl⟩
    have hce:w2.heap[ks]? = some (.cells CC 82):=(by rw[hCC];exact HCX.out);have HCC:=Qh hCC;have sCC:CC.size=19:=(by rw[hCC];rfl);have uCC:CC.all (·.oneCell')=true:=(by rw[hCC];exact SigD.cells_one _ _ _ _);have bks:Blk w2 ks CC:=⟨_,hce⟩
    have bz:Blk w2 w.heap.size zeroSig:=⟨_,HZX.out⟩
    have huS:=underlying82;clear hce hCC;go_wp2_with (first|(refine wpList_loadS bks 82 (.tmp 3) huS (by rw[sCC];exact sig_size) ?_)|(refine wpList_storeS (cs:=CC) bz 82 (.tmp 2) (.tmp 101) (by rw[sCC];exact sig_size) (by rw[sCC];rfl) uCC ?_))
    have hrun:=run_loadS (bz.row CC) 82 _ huS rfl (by rw[sCC];exact sig_size);refine bodyPost_ret (v:=.agg CC) (by simp[results,results85,Act.put,asAddr,hrun]) rfl ?_;refine⟨⟨⟨t0.line,t0.col,nm,rb.1,rb.2,sa,sz,M1,M2,sc.1,sc.2,ofs.1,ofs.2,mi.1,mi.2,ma.1,ma.2,u.text⟩,l⟩,CC,rfl,⟨.slice av l.length cv,by rw[HCC.out],HOWX.out.apt (by decide) HZX.out (fun b _ hne=>heap_setRow_other _ _ _ _ hne)⟩,HOX.out.row _ lrf CC,?_,fun hok=>?_⟩
    ·rw[HV.out,HKF.out];dsimp only;rw[(run_end s1 sigX0 _).1];exact HPX.out.row hkw CC
    ·have ht:=HMA.out (HBACK.out hok);rw[HV.out,HKF.out]at hok ⊢;dsimp only at hok ⊢;rw[(run_end s1 sigX0 _).1]at hok;rw[(run_end s1 sigX0 _).2 hok];rw[ht]
   | true=>
    cases s1 with
    | bad a b c=>cases hS
    | ok ts=>
     have hp0:=HP1.out;obtain⟨j,hj,rfl,hrj⟩:=hp0;rw[hS]at cs;rw[sees_eq hT hj (k:=4) ⟨44,[],rfl,.inr ⟨rfl,by decide⟩⟩]at hS;obtain⟨hf1,hf2⟩:=HF1.out _ rfl;have hn1:=hns _ rfl;obtain⟨g,rfl⟩:∃ g,fu' = g+1:=⟨fu' - 1,by omega⟩
     have HV:=Qh (show R=((RSt.ok (T.drop j).tail).run [] nameR).2.run sigX0 (fun ts=>(toF g (l++[((RSt.ok (T.drop j).tail).run [] nameR).1]) ts).bind KF)by rw[HR1.out,run_to_go sigX0 KF hS]);have HRJ:=Qh hrj;have HK:=Qh (sees_kind hS);have hlt:(T.drop j).tail.length+1≤(T.drop j).length:=(by rw[List.length_tail];omega);have htl:(T.drop j).tail.length≤4000000:=(by rw[List.length_tail,List.length_drop];omega);clear hS hns hrj;go_wp2_with fail;(with_reducible refine cs.mono ?_);rintro e w2 ⟨rfl,hb⟩;have hr2:=HRJ.out.keep hb;have HST:=Qh (hr2.step hT hj HK.out);obtain⟨v2,hc2⟩:=hr2.cells;have f1:=hc2.cell 1 (.int .i64 (j:Nat)) rfl;have r1:=hc2.free 1;have HO2:=Qh ((HO1.out.trans (Only.of_below kr hb)).set 1 (.int .i64 ((j:Int)+1)));have HCe:=Qh (set_ne (kind_at HC1.out hb) (show ks≠kr by omega) 1 (.int .i64 ((j:Int)+1)));have HZe:=Qh (set_ne (kind_at HZ1.out hb) (show w.heap.size≠kr by omega) 1 (.int .i64 ((j:Int)+1)));have HOWN:=Qh ((HOW1.out.keep hb lrf).ofBlock (w':=w2.setCell ⟨kr,1,none⟩ (.int .i64 ((j:Int)+1))) fun b hbo=>Below.heap_setCell _ ⟨kr,1,none⟩ _ b (by have:=(HOW1.out.lt b hbo).1;show b≠kr;omega));generalize (T.drop j).tail=ts2 at *;generalize (T.drop j).length=n2 at *;clear cs hb hr2 hc2 hcp;go_upto_region 26 with fail
     clear f1 r1;generalize w2.setCell ⟨kr,1,none⟩ (.int .i64 ((j:Int)+1))=W3 at *;have HOd:=Qh (HO2.out.trans (Only.of_below kr (Below.refl W3.heap.size W3).drew));have HPd:=Qh (HST.out.keep (Below.refl W3.heap.size W3).drew);have cn:=red_name T hT (.ok ts2) kr W3.drew HPd.out;obtain⟨nm2,hx⟩:∃ x,x=((RSt.ok ts2).run [] nameR).1:=⟨_,rfl⟩
     obtain⟨sm2,hs⟩:∃ s,s=((RSt.ok ts2).run [] nameR).2:=⟨_,rfl⟩
     have HSM:=Qh (show ∀ ts,sm2=.ok ts→ts.length≤ts2.length by
      intro ts e;rw[hs]at e;obtain⟨xx,h2⟩:=run_ok2 e;unfold nameR formR wrongR at h2;split at h2
      ·split at h2
       ·cases h2;rw[List.length_tail];omega
       ·cases h2
      ·cases h2)
     have hv:=HV.out;rw[← hx,← hs]at hv cn;have HV:=Qh hv;clear hx hs hv;have c18:=Blk.cell ⟨_,HCe.out⟩ 18 (.slice av l.length cv) rfl;refine wp_region_heldL 7 (fun (w':World)=>w'.cell? ⟨ks,18,none⟩=some (.slice av l.length cv)) (by kernel_rfl) c18 (fun hHeld=>?_);refine hL 0 ?_;try simp only[spt]
     refine hL 1 ?_;try simp only[spt]
     refine hL 2 ?_;try simp only[spt]
     refine heldL_call 3 rfl (by kernel_rfl) (fun K hK=>?_);go_simp;(with_reducible refine cn.mono ?_);rintro e W41 ⟨rfl,ho,hp⟩;have HC41:=Qh (kind_only (W:=W3.drew) HCe.out (by omega) ho);have HZ41:=Qh (kind_only (W:=W3.drew) HZe.out (by omega) ho);have HO41:=Qh (HOd.out.trans ho);have HP41:=Qh hp;have HW41:=Qh (Owns.only (W:=W3.drew) (HOWN.out.keep (Below.refl W3.heap.size W3).drew lrf) hkw ho);have c18b:=Blk.cell ⟨_,HC41.out⟩ 18 (.slice av l.length cv) rfl;have hb5:Below W41.heap.size W41 (W41.alloc (.cells #[.string ⟨nm2.toArray⟩] 9)):=(Below.refl _ _).alloc lrf _;clear cn ho hp;clear hHeld;refine hK.out _ _ ?_ (fun hHeld=>?_)
     ·exact c18b
     clear hK K;try simp only[spt]
     refine heldL_call 4 rfl (by kernel_rfl) (fun K hK=>?_);go_simp;clear hHeld;refine hK.out _ _ ?_ (fun hHeld=>?_)
     ·exact cell_keep' c18b hb5
     clear hK K;try simp only[spt]
     refine heldL_call 5 rfl (by kernel_rfl) (fun K hK=>?_);have HC42:=Qh (kind_at HC41.out hb5);have HZ42:=Qh (kind_at HZ41.out hb5);have HO42:=Qh (HO41.out.trans (Only.of_below kr hb5));have HP42:=Qh (HP41.out.keep hb5);have HW42:=Qh (HW41.out.keep hb5 lrf);have hn42:=heap_alloc_new W41 (.cells #[.string ⟨nm2.toArray⟩] 9);have hs42:w.heap.size≤(W41.alloc (.cells #[.string ⟨nm2.toArray⟩] 9)).heap.size:=HO42.out.size;clear hb5;generalize W41.alloc (.cells #[.string ⟨nm2.toArray⟩] 9)=W42 at *;refine step_append_elem (en:=enTx) txs_ty l nm2 (g:=W41.heap.size) HW42.out (Below.refl w.heap.size W42) hs42 (by omega) hn42 ?_ (hone:=by simp[enTx,Value.oneCell']);rintro v5 w5 hown5 hb6 hgr5 -;obtain⟨a5,n5,c5,hv5⟩:∃ a n c,v5=.slice a n c:=by obtain⟨a5,c5,e,-⟩:=hown5.shape;exact⟨_,_,_,e⟩
     subst hv5;have HC5:=Qh (heap_grown2 HC42.out HW42.out (by decide) hgr5);have HZ5:=Qh (heap_grown2 HZ42.out HW42.out (by decide) hgr5);have HO5:=Qh (Only.low HO42.out hb6);have HP5:=Qh (RAt.low HP42.out hkw hb6);have hcv5:=Blk.cell ⟨_,HC5.out⟩ 18 (.slice av l.length cv) rfl;have hfr5:=Blk.free ⟨_,HC5.out⟩ 18;clear hb6 hgr5 hn42 hs42;clear hHeld;refine hK.out _ _ ?_ (fun hHeld=>?_)
     ·exact hcv5
     clear hK K;try simp only[spt]
     refine hL 6 ?_;try simp only[spt]
     refine heldL_last 7 rfl (by kernel_rfl) (by kernel_rfl) (fun K hK=>?_);go_simp;refine hK.out _ _ ?_;clear hK K;try simp only[spt]
     refine wpAnyL_done (by kernel_rfl) ?_ _;have HC6:=Qh (set_at HC5.out 18 (.slice a5 n5 c5));have HZ6:=Qh (set_ne HZ5.out (show w.heap.size≠ks by omega) 18 (.slice a5 n5 c5));have HO6:=Qh (Only.new HO5.out ks hks 18 (.slice a5 n5 c5));have HP6:=Qh (RAt.set HP5.out hkks 18 (.slice a5 n5 c5));have OW6:=Qh (hown5.apt (by decide) HC5.out (fun b _ hne=>Below.heap_setCell _ ⟨ks,18,none⟩ (.slice a5 n5 c5) b hne));clear hown5 hcv5 hfr5 c18 c18b;go_wp2_with fail;go_roundw;case rel=>exact⟨k+1,g,l++[nm2],_,sm2,by go_num,by omega,by simp only[List.length_append,List.length_cons,List.length_nil];omega,(fun ts e=>by have:=HSM.out ts e;exact⟨by omega,by omega⟩),HV.out,HP6.out,HO6.out,HC6.out,HZ6.out,OW6.out⟩
     case measure=>simp[intOf];omega
  ·have hst:∀ ts,s1=.ok ts→seesB [44] ts=false:=fun ts e=>by
    have h1:=(HF1.out ts e).2;have h2:=hns ts e;omega
   have HOX:=HO1;have HPX:=HP1;have HCX:=HC1;have HZX:=HZ1;have HOWX:=HOW1;have HV:=Qh (show R=s1.run sigX0 (KF l)by
    rw[HR1.out];exact run_to_stop sigX0 KF (fun ts e=>Nat.le_trans (hns ts e) (HF1.out ts e).1) hst)
   clear hns;obtain⟨CC,hCC⟩:∃ C,C=(⟨t0.line,t0.col,nm,rb.1,rb.2,sa,sz,M1,M2,sc.1,sc.2,ofs.1,ofs.2,mi.1,mi.2,ma.1,ma.2,u.text⟩:SigD).cells (.slice av l.length cv):=⟨_,rfl⟩
   have hce:wr.heap[ks]? = some (.cells CC 82):=(by rw[hCC];exact HCX.out);have HCC:=Qh hCC;have sCC:CC.size=19:=(by rw[hCC];rfl);have uCC:CC.all (·.oneCell')=true:=(by rw[hCC];exact SigD.cells_one _ _ _ _);have bks:Blk wr ks CC:=⟨_,hce⟩
   have bz:Blk wr w.heap.size zeroSig:=⟨_,HZX.out⟩
   have huS:=underlying82;clear hce hCC;go_wp2_with (first|(refine wpList_loadS bks 82 (.tmp 3) huS (by rw[sCC];exact sig_size) ?_)|(refine wpList_storeS (cs:=CC) bz 82 (.tmp 2) (.tmp 101) (by rw[sCC];exact sig_size) (by rw[sCC];rfl) uCC ?_))
   have hrun:=run_loadS (bz.row CC) 82 _ huS rfl (by rw[sCC];exact sig_size);refine bodyPost_ret (v:=.agg CC) (by simp[results,results85,asAddr,hrun]) rfl ?_;refine⟨⟨⟨t0.line,t0.col,nm,rb.1,rb.2,sa,sz,M1,M2,sc.1,sc.2,ofs.1,ofs.2,mi.1,mi.2,ma.1,ma.2,u.text⟩,l⟩,CC,rfl,⟨.slice av l.length cv,by rw[HCC.out],HOWX.out.apt (by decide) HZX.out (fun b _ hne=>heap_setRow_other _ _ _ _ hne)⟩,HOX.out.row _ lrf CC,?_,fun hok=>?_⟩
   ·rw[HV.out,HKF.out];dsimp only;rw[(run_end s1 sigX0 _).1];exact HPX.out.row hkw CC
   ·have ht:=HMA.out (HBACK.out hok);rw[HV.out,HKF.out]at hok ⊢;dsimp only at hok ⊢;rw[(run_end s1 sigX0 _).1]at hok;rw[(run_end s1 sigX0 _).2 hok];rw[ht]
end Go.Proofs.YtlacjhjckkablaaGreatDoor
