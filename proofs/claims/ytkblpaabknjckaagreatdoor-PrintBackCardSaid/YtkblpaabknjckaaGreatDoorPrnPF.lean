/-
  Layer 7: print.File: contract.
-/
import Derived.Test.YtkblpaabknjckaaGreatDoorBaseD
import Derived.Test.YtkblpaabknjckaaGreatDoorPrnZ
import Derived.Test.YtkblpaabknjckaaGreatDoorNodD
import Derived.Test.YtkblpaabknjckaaGreatDoorAppC
set_option maxHeartbeats 128000000
set_option linter.unusedVariables false
namespace Go.Proofs.YtkblpaabknjckaaGreatDoor
open Go.Proofs.Tryz
open Go.RowKit Go.Shelf
def NodOK:NodeD→Prop
 | .ver v=>v.text.length≤100000000
 | .sta s=>s.names.length≤4000000∧∀ r∈s.names,r.length≤100000000
 | .msg m=>MsgOK m
 | .tab t=>TabOK t
def nmN (nm:Nat) (n:NodeD):Nat:=if isMsg n then nm+1 else nm
structure WrtW (w0:World) (base g:Nat) (nm:Nat) (tb:Bool) (Ls:List (List UInt8)) (w:World) (v:Value):Prop where
 bel:Below base w0 w
 ge:base≤g
 blk:w.heap[g]? = some (.cells #[v,.int .i64 (nm:Nat),.bool tb] 79)
 own:Owns w base 9 1 enTx v Ls
section
variable {w0:World} {base g:Nat} {nm:Nat} {tb:Bool} {Ls:List (List UInt8)} {w w':World} {v:Value}
theorem WrtW.lt (h:WrtW w0 base g nm tb Ls w v):g < w.heap.size:=(gE h.blk)
theorem WrtW.keep (h:WrtW w0 base g nm tb Ls w v) (hb:Below w.heap.size w w'):WrtW w0 base g nm tb Ls w' v:=
 ⟨h.bel.trans (hb.mono (by have:=h.lt;have:=h.ge;omega)),h.ge,Blk.kindAt h.blk hb,h.own.keep hb lrf⟩
theorem WrtW.alloc (h:WrtW w0 base g nm tb Ls w v) (o:Obj):WrtW w0 base g nm tb Ls (w.alloc o) v:=h.keep ((Below.refl w.heap.size w).alloc lrf o)
theorem WrtW.drew (h:WrtW w0 base g nm tb Ls w v):WrtW w0 base g nm tb Ls w.drew v:=h.keep (Below.refl w.heap.size w).drew
theorem WrtW.msgs (h:WrtW w0 base g nm tb Ls w v) (n:Nat):WrtW w0 base g n tb Ls (w.setCell ⟨g,1,none⟩ (.int .i64 (n:Nat))) v:=
 ⟨below_set h.bel h.ge 1 _,h.ge,setCell_at h.blk 1 _,h.own.setAt h.blk (by decide) 1 _⟩
theorem WrtW.tabs (h:WrtW w0 base g nm tb Ls w v) (b:Bool):WrtW w0 base g nm b Ls (w.setCell ⟨g,2,none⟩ (.bool b)) v:=
 ⟨below_set h.bel h.ge 2 _,h.ge,setCell_at h.blk 2 _,h.own.setAt h.blk (by decide) 2 _⟩
theorem WrtW.grow (h:WrtW w0 base g nm tb Ls w v) {v':Value} {Ls':List (List UInt8)} (ho:Owns w' base 9 1 enTx v' Ls') (hb:Below base w0 w') (hg:w.grownBy w' v.ownBlock):WrtW w0 base g nm tb Ls' (w'.setCell ⟨g,0,none⟩ v') v' ∧
  Blk w' g #[v,.int .i64 (nm:Nat),.bool tb]:=by
 have hk:w'.heap[g]? = some (.cells #[v,.int .i64 (nm:Nat),.bool tb] 79):=heap_grown2 h.blk h.own (by decide) hg;exact⟨⟨below_set hb h.ge 0 _,h.ge,setCell_at hk 0 _,ho.setAt hk (by decide) 0 _⟩,⟨_,hk⟩⟩
end
def PartPost (w0:World) (base g nm:Nat) (tb:Bool) (Ls:List (List UInt8)) (n:NodeD) (e:Ending) (w':World):Prop:=
 e=.returned (.bool (partB nm n))∧Below base w0 w'∧(partB nm n=true→∃ v',WrtW w0 base g (nmN nm n) (tb || isTab n) (Ls++partL tb n) w' v')
set_option maxRecDepth 100000 in theorem part_ver (y : VerD) (hy : y.text.length ≤ 100000000) (w0 : World) (base g nm : Nat) (tb : Bool) (Ls : List (List UInt8)) (hLs : Ls.length ≤ 100000000) (hbz : base ≤ w0.heap.size) (w : World) (v : Value) (h : WrtW w0 base g nm tb Ls w v) (hT : TabsU w) (C : Array Value) (hC : C = y.cells) :
  Calls prog 23 #[.pointer (some ⟨g,0,none⟩),.iface 31 (.agg C)] w fun e w'=>PartPost w0 base g nm tb Ls (.ver y) e w':=by
 obtain rfl:C=#[.int .i64 y.line,.int .i64 y.col,.string ⟨y.text.toArray⟩]:=hC;obtain⟨B,hB⟩:∃ B,B=partB nm (.ver y):=⟨_,rfl⟩
 have HB:=Qh hB;have HP:=Qh (show ∀ e w',(e=.returned (.bool B)∧Below base w0 w'∧(B=true→∃ v',WrtW w0 base g nm tb (Ls++[verT y]) w' v'))→PartPost w0 base g nm tb Ls (.ver y) e w' from fun e w' h=>by
  unfold PartPost;rw[← hB]
  simpa [nmN,isMsg,isTab,partL]using h)
 clear hB;have cq:=fun W h=>quoted_any y.text hy W h
 rw[good_quo]at cq;have hql:(quoL y.text).length≤300000002:=by
  have h1:=escQ_len y.text;have h2:cqL y.text≤2*y.text.length:=by
   unfold cqL;have:=List.count_le_length (a:=(34:UInt8)) (l:=y.text);have:=List.count_le_length (a:=(92:UInt8)) (l:=y.text);omega
  simp only[quoL,List.length_append,List.length_cons,List.length_nil];omega
 have HVT:=Qh (show verT y=[86,69,82,83,73,79,78,32]++quoL y.text from rfl);rw[show partB nm (.ver y)=(mayN y.text == 0)from rfl]at HB;obtain⟨nb,-,hbn⟩:=box1 w #[.int .i64 y.line,.int .i64 y.col,.string ⟨y.text.toArray⟩] 31;have htz:=TabsU.keep hT hbn;have HW:=Qh (h.alloc (.cells #[.int .i64 y.line,.int .i64 y.col,.string ⟨y.text.toArray⟩] 31));clear h hT nb hbn;have hVV:=asVV;have hVS:=asVS;have hVM:=asVM;have hVT:=asVT;generalize quoL y.text=QU at *;generalize (mayN y.text == 0)=mb at *;obtain⟨Q0,eQ0,aQ0,nQ0,zQ0⟩:=strCat [86,69,82,83,73,79,78,32] QU (by (try simp)) (by omega);rw[← eQ0]at HVT;clear eQ0 zQ0;simp only[List.length_cons,List.length_nil,Nat.reduceAdd]at nQ0;go_enter func23,ntmps23
 go_wp2_with fail;with_reducible refine(cq _ htz).mono ?_
 rintro e w1 ⟨rfl,hb1⟩;have HW1:=Qh (HW.out.keep hb1);have B1:Blk w1 g #[v,.int .i64 (nm:Nat),.bool tb]:=⟨_,HW1.out.blk⟩
 have c0:=B1.cell 0 _ rfl;have r0:=B1.free 0;clear hb1 cq htz HW B1;go_wp2_with (at_builtin;go_loud (refine wpList_append_elem3 txs_ty Ls Q0 HW1.out.own HW1.out.bel hbz (by omega) ?_ (hone:=by simp[enTx,Value.oneCell'])))
 rintro v2 w2 hown2 hb2 hg2 -;obtain⟨a5,n5,c5,hv5⟩:∃ a n c,v2=.slice a n c:=by obtain⟨a5,c5,e,-⟩:=hown2.shape;exact⟨_,_,_,e⟩
 subst hv5;obtain⟨hw3,B3⟩:=HW1.out.grow hown2 hb2 hg2;have c0':=B3.cell 0 _ rfl;have r0':=B3.free 0;have HW3:=Qh hw3;clear hown2 hb2 hg2 hw3 B3 c0 r0;go_wp2_with fail;go_ret;exact HP.out _ _ ⟨congrArg (fun z=>Ending.returned (.bool z)) HB.out.symm,HW3.out.bel,fun _=>⟨_,by rw[HVT.out];exact HW3.out⟩⟩
theorem sta_tail (ns:List (List UInt8)):Lib.joinTail [32] ns=ns.flatMap fun x=>32::x:=by
 induction ns with
 | nil=>rfl
 | cons x l ih=>rw[List.flatMap_cons,← ih];rfl
theorem sta_join (ns:List (List UInt8)):Lib.join ([[66,85,95,58]]++ns) [32]=[66,85,95,58]++ns.flatMap fun x=>32::x:=by
 show Lib.join ([66,85,95,58]::ns) [32]=_;rw[Lib.join_cons];exact congrArg _ (sta_tail ns)
set_option maxRecDepth 100000 in theorem part_sta (y : StaD) (hy1 : y.names.length ≤ 4000000) (hy2 : ∀ r ∈ y.names, r.length ≤ 100000000) (w0 : World) (base g nm : Nat) (tb : Bool) (Ls : List (List UInt8)) (hLs : Ls.length ≤ 100000000) (hbz : base ≤ w0.heap.size) (w : World) (v : Value) (h : WrtW w0 base g nm tb Ls w v) (C : Array Value) (hC : rdSta w y C.toList) :
  Calls prog 23 #[.pointer (some ⟨g,0,none⟩),.iface 34 (.agg C)] w fun e w'=>PartPost w0 base g nm tb Ls (.sta y) e w':=by
 obtain⟨a',c',eC,hsx⟩:=hC;have eC2:C=#[.int .i64 y.line,.int .i64 y.col,.slice a' y.names.length c']:=Array.toList_inj.1 eC;clear eC;subst eC2;obtain⟨B,hB⟩:∃ B,B=partB nm (.sta y):=⟨_,rfl⟩
 have HP:=Qh (show ∀ e w',(e=.returned (.bool B)∧Below base w0 w'∧(B=true→∃ v',WrtW w0 base g nm tb (Ls++[staT y]) w' v'))→PartPost w0 base g nm tb Ls (.sta y) e w' from fun e w' h=>by
  unfold PartPost;rw[← hB]
  simpa [nmN,isMsg,isTab,partL]using h)
 have HB:=Qh (show B=y.names.all wordB from hB);clear hB;have HJ:=Qh (sta_join y.names);have HST:=Qh (show staT y=[66,85,95,58]++y.names.flatMap fun x=>32::x from rfl);have HNL:=Qh (names_len y.names);have HSX:=Qh hsx;obtain⟨nb,-,hbn⟩:=box1 w #[.int .i64 y.line,.int .i64 y.col,.slice a' y.names.length c'] 34;have HW:=Qh (h.alloc (.cells #[.int .i64 y.line,.int .i64 y.col,.slice a' y.names.length c'] 34));have HBN:=Qh hbn;have NB:=Qh (heap_alloc_new w (.cells #[.int .i64 y.line,.int .i64 y.col,.slice a' y.names.length c'] 34));have hb0:=nb.cell 2 _ rfl;clear h nb hbn hsx;have hVV:=asVV;have hVS:=asVS;have hVM:=asVM;have hVT:=asVT;have hSV:=asSV;have hSS:=asSS;have hSM:=asSM;have hST:=asST;go_enter func23,ntmps23
 go_wp2_with fail;clear hb0;go_loopw [45] (fun i wr=>∃ k:Nat,k≤y.names.length∧i=.int .i64 (k:Nat)∧B=((y.names.drop k).all wordB)∧Below w.heap.size w wr∧wr.heap[w.heap.size]? = some (.cells #[.int .i64 y.line,.int .i64 y.col,.slice a' y.names.length c'] 34)∧WrtW w0 base g nm tb Ls wr v) (fun i _=>y.names.length - (intOf i).toNat)
 case atStart=>exact⟨0,Nat.zero_le _,rfl,by rw[HB.out];rfl,HBN.out,NB.out,HW.out⟩
 case round=>
  clear HBN NB HW;obtain⟨k,hk,rfl,hsk,hbel,hz0,hw⟩:=hrel;have bz:Blk wr w.heap.size #[.int .i64 y.line,.int .i64 y.col,.slice a' y.names.length c']:=⟨_,hz0⟩
  by_cases hlt:(k:Int) < y.names.length
  ·have hlt':k < y.names.length:=(by omega);obtain⟨bb,oo,rfl,hb,hc0⟩:=SlX.at (HSX.out.keep hbel lrf) hlt';have hok:=hy2 _ (List.getElem_mem hlt');rw[List.drop_eq_getElem_cons hlt',List.all_cons]at hsk;generalize y.names[k]=z at *;have cw:=fun W=>pword_any z (by omega) W
   have HSK:=Qh hsk;have HW:=Qh hw;have HZ:=Qh hz0;clear hsk hok hw bz hz0;generalize wordB z=zb at *;go_wp2_with fail;with_reducible refine(cw _).mono ?_
   rintro e w6 ⟨rfl,hb6⟩;have HW6:=Qh (HW.out.keep hb6);have HZ6:=Qh (Blk.kindAt HZ.out hb6);have hbel6:=bstep hbel hb6 lrf;clear cw hb6 hbel hc0 HW HZ hb;cases zb
   ·have HV:=Qh (show B=false by rw[HSK.out];rfl);go_wp2_with fail;go_ret;exact HP.out _ _ ⟨congrArg (fun z=>Ending.returned (.bool z)) HV.out.symm,HW6.out.bel,fun h=>by rw[HV.out]at h;cases h⟩
   ·have HV:=Qh (show B=(y.names.drop (k+1)).all wordB by rw[HSK.out];rfl);go_wp2_with fail;go_roundw;case rel=>exact⟨k+1,by omega,by go_num,HV.out,hbel6,HZ6.out,HW6.out⟩
    case measure=>simp[intOf];omega
  ·obtain rfl:k=y.names.length:=by omega
   have HV:=Qh (show B=true by rw[hsk,List.drop_length];rfl);have hnl:=HNL.out (by rw[← HB.out];exact HV.out);have hjl:(Lib.join ([[66,85,95,58]]++y.names) [32]).length≤1000000000:=(by rw[HJ.out,List.length_append];simp only[List.length_cons,List.length_nil];omega);have HWr:=Qh hw;have BW:Blk wr g #[v,.int .i64 (nm:Nat),.bool tb]:=⟨_,hw.blk⟩
   have c0:=BW.cell 0 _ rfl;have c2:=bz.cell 2 _ rfl;have HS2:=Qh (HSX.out.keep hbel lrf);have hT0:wr.drew.cell? ⟨g,0,none⟩=some v∧wr.drew.cell? ⟨w.heap.size,2,none⟩=some (.slice a' y.names.length c'):=⟨c0,c2⟩
   have hkp:∀ W W',Below W.heap.size W W'→(W.cell? ⟨g,0,none⟩=some v∧W.cell? ⟨w.heap.size,2,none⟩=some (.slice a' y.names.length c'))→(W'.cell? ⟨g,0,none⟩=some v∧W'.cell? ⟨w.heap.size,2,none⟩=some (.slice a' y.names.length c')):=fun W W' hb h=>⟨cell_keep' h.1 hb,cell_keep' h.2 hb⟩
   have HZ0:=Qh hz0;clear hsk hnl HNL hw BW hbel bz hz0;generalize hn1:y.names=NS at *;have HN1:=Qh hn1;clear hn1;go_wp2_with fail;refine wp_region_heldL 14 (fun (w':World)=>w'.cell? ⟨g,0,none⟩=some v∧w'.cell? ⟨w.heap.size,2,none⟩=some (.slice a' NS.length c')) (by kernel_rfl) hT0 (fun hHeld=>?_);refine hL 0 ?_;try simp only[spt]
   refine hL 1 ?_;try simp only[spt]
   refine hL 2 ?_;try simp only[spt]
   refine hL 3 ?_;try simp only[spt]
   refine hL 4 ?_;try simp only[spt]
   refine hL 6 ?_;try simp only[spt]
   refine hL 7 ?_;try simp only[spt]
   refine heldL_call 5 rfl (by kernel_rfl) (fun K hK=>?_);have H0:=hHeld;go_simp;clear hHeld;refine hK.out _ _ ?_ (fun hHeld=>?_)
   ·exact hkp _ _ ((Below.refl wr.drew.heap.size wr.drew).alloc lrf _) H0
   clear hK K;try simp only[spt]
   refine heldL_call 8 rfl (by kernel_rfl) (fun K hK=>?_);have H0:=hHeld;have hwa:=HWr.out.drew.alloc (.cells #[.string ⟨#[66,85,95,58]⟩] 9);have hlit:=Owns.lit wr.drew wr.drew.heap.size enTx 1 (fun _=>rfl) [[66,85,95,58]] #[.string ⟨#[66,85,95,58]⟩] 9 1 rfl rfl (by decide) lrf;refine step_append_sl2 txs_ty [[66,85,95,58]] NS enTx_len (fun y _=>enTx_one y) ((HS2.out.drew).keep ((Below.refl wr.drew.heap.size wr.drew).alloc lrf _) lrf) hlit ((Below.refl wr.drew.heap.size wr.drew).alloc lrf _) lrf (by simp only[List.length_cons,List.length_nil];omega) ?_;rintro v5 w5 hown5 hb5 -;obtain⟨a5,n5,c5,hv5,hn5,hs5⟩:∃ a n c,v5=.slice a n c∧n=([[66,85,95,58]]++NS).length∧SlX w5 a c ([[66,85,95,58]]++NS):=by obtain⟨a5,c5,e,h⟩:=hown5.shape;exact⟨_,_,_,e,rfl,h⟩
   subst hv5;have HW5:=Qh (HWr.out.drew.keep hb5);have HZ5:=Qh (Blk.kindAt (w:=wr.drew) HZ0.out hb5);have cJ:=pjoin_any [32] ([[66,85,95,58]]++NS) n5 hn5 a5 c5 w5 hs5 hjl (by simp;omega);rw[HJ.out]at cJ;clear hlit hwa hown5 hs5 hn5;clear hHeld;refine hK.out _ _ ?_ (fun hHeld=>?_)
   ·exact hkp _ _ hb5 (by assumption)
   clear hK K;try simp only[spt]
   refine heldL_call 9 rfl (by kernel_rfl) (fun K hK=>?_);have H0:=hHeld;go_simp;(with_reducible refine cJ.mono ?_);rintro e w6 ⟨rfl,hb6⟩;have HW6:=Qh (HW5.out.keep hb6);have HZ6:=Qh (Blk.kindAt HZ5.out hb6);clear hHeld;refine hK.out _ _ ?_ (fun hHeld=>?_)
   ·exact hkp _ _ hb6 H0
   clear hK K;try simp only[spt]
   refine heldL_call 10 rfl (by kernel_rfl) (fun K hK=>?_);have H0:=hHeld;go_simp;clear hHeld;refine hK.out _ _ ?_ (fun hHeld=>?_)
   ·exact hkp _ _ ((Below.refl w6.heap.size w6).alloc lrf _) H0
   clear hK K;try simp only[spt]
   refine heldL_call 11 rfl (by kernel_rfl) (fun K hK=>?_);have H0:=hHeld;have hwa:=HW6.out.alloc (.cells #[.string ⟨([66,85,95,58]++NS.flatMap fun x=>32::x).toArray⟩] 9);refine step_append_elem txs_ty Ls ([66,85,95,58]++NS.flatMap fun x=>32::x) (g:=w6.heap.size) hwa.own hwa.bel hbz (by omega) (heap_alloc_new w6 _) ?_ (hone:=by simp[enTx,Value.oneCell']);rintro v7 w7 hown7 hb7 hg7 -;obtain⟨a7,n7,c7,hv7⟩:∃ a n c,v7=.slice a n c:=by obtain⟨a5,c5,e,-⟩:=hown7.shape;exact⟨_,_,_,e⟩
   subst hv7;obtain⟨hw8,B8⟩:=hwa.grow hown7 hb7 hg7;have HW8:=Qh hw8;have k0:=B8.cell 0 _ rfl;have kf:=B8.free 0;have k2:w7.cell? ⟨w.heap.size,2,none⟩=some (.slice a' NS.length c'):=cell_of_row w7 w.heap.size 2 _ _ (0,0) (heap_grown2 (Blk.kindAt HZ6.out ((Below.refl w6.heap.size w6).alloc lrf _)) hwa.own (by decide) hg7);clear hHeld;refine hK.out _ _ ?_ (fun hHeld=>?_)
   ·exact⟨k0,k2⟩
   clear hK K;try simp only[spt]
   refine heldL_call 12 rfl (by kernel_rfl) (fun K hK=>?_);have H0:=hHeld;go_simp;clear hHeld;refine hK.out _ _ ?_ (fun hHeld=>?_)
   ·exact H0
   clear hK K;try simp only[spt]
   refine heldL_call 13 rfl (by kernel_rfl) (fun K hK=>?_);have H0:=hHeld;go_simp;clear hHeld;refine hK.out _ _ ?_ (fun hHeld=>?_)
   ·exact H0
   clear hK K;try simp only[spt]
   refine heldL_last 14 rfl (by kernel_rfl) (by kernel_rfl) (fun K hK=>?_);go_simp;refine hK.out _ _ ?_;clear hK K;try simp only[spt]
   refine wpAnyL_done (by kernel_rfl) ?_ _;go_wp2_with fail;go_ret;exact HP.out _ _ ⟨congrArg (fun z=>Ending.returned (.bool z)) HV.out.symm,HW8.out.bel,fun _=>⟨_,by rw[HST.out];exact HW8.out⟩⟩
set_option maxRecDepth 100000 in theorem part_msg (y : MsgD) (hy : MsgOK y) (w0 : World) (base g nm : Nat) (hnm : nm ≤ 100000000) (tb : Bool) (Ls : List (List UInt8)) (hL : Ls.length ≤ 100000000) (hbz : base ≤ w0.heap.size) (w : World) (v : Value) (h : WrtW w0 base g nm tb Ls w v) (hT : TabsU w) (hp : PowTab w) (C : Array Value) (hC : rdMsg w y C.toList) :
  Calls prog 23 #[.pointer (some ⟨g,0,none⟩),.iface 72 (.agg C)] w fun e w'=>PartPost w0 base g nm tb Ls (.msg y) e w':=by
 obtain⟨hC8,hC1⟩:=rdMsg_one hC;have hC8:C.size=8:=hC8;have hC1:C.all (·.oneCell')=true:=hC1;obtain⟨B,hB⟩:∃ B,B=partB nm (.msg y):=⟨_,rfl⟩
 have HP:=Qh (show ∀ e w',(e=.returned (.bool B)∧Below base w0 w'∧(B=true→∃ v',WrtW w0 base g (nm+1) tb (Ls++msgL y) w' v'))→PartPost w0 base g nm tb Ls (.msg y) e w' from fun e w' h=>by
  unfold PartPost;rw[← hB]
  simpa [nmN,isMsg,isTab,partL]using h)
 have HB:=Qh (show B=(msgB y && decide (nm+1≤512))from hB);clear hB;obtain⟨nb,-,hbn⟩:=box1 w C 72;have cM:=pmessage_any y hy _ C (last_rdMsg _ _ _ _ hC hbn) (TabsU.keep hT hbn) (PowTab.keep hp hbn);have HW:=Qh (h.alloc (.cells C 72));have HML:Hid (msgB y=true→(msgL y).length≤100):=Qh (fun h=>by
  unfold msgB at h;simp only[Bool.and_eq_true,decide_eq_true_eq]at h;unfold msgL;simp only[List.length_cons,List.length_map];omega)
 have hum:=underlying72;clear h hbn hT hp hC;have hVV:=asVV;have hVS:=asVS;have hVM:=asVM;have hVT:=asVT;have hSV:=asSV;have hSS:=asSS;have hSM:=asSM;have hST:=asST;have hMV:=asMV;have hMS:=asMS;have hMM:=asMM;have hMT:=asMT;generalize msgB y=mb at *;have nbz:Blk (w.alloc (.cells zeroMsgD 72)) w.heap.size zeroMsgD:=Blk.new _ _ _;go_enter func23,ntmps23
 go_wp2_with (first|(refine wpList_storeS (cs:=C) nbz 72 (.tmp 11) (.tmp 69) (by rw[hC8];exact msg_size) (by rw[hC8];rfl) hC1 ?_;rw[World.setRow_alloc_new])|(refine wpList_loadS nb 72 (.tmp 11) hum (by rw[hC8];exact msg_size) ?_))
 clear nbz;(with_reducible refine cM.mono ?_);rintro e w1 ⟨hb1,v1,rfl,ho1,hn1⟩;have HW1:=Qh (HW.out.keep hb1);have B1:Blk w1 g #[v,.int .i64 (nm:Nat),.bool tb]:=⟨_,HW1.out.blk⟩
 have m1:=B1.cell 1 _ rfl;have mf:=B1.free 1;have HM1:=Qh (HW1.out.msgs (nm+1));have BM:Blk (w1.setCell ⟨g,1,none⟩ (.int .i64 ((nm+1:Nat)))) g #[v,.int .i64 ((nm+1:Nat)),.bool tb]:=⟨_,HM1.out.blk⟩
 rw[show((nm+1:Nat):Int)=(nm:Int)+1 by omega]at BM HM1;have m0:=BM.cell 0 _ rfl;have m0f:=BM.free 0;have hk1:=HW1.out.blk;obtain⟨ys,ad,cp,hv1,hys,hyl,hyt⟩:∃ (ys:List (List UInt8)) (ad:Option Addr) (cp:Nat),v1=.slice ad ys.length cp∧SlX (w1.setCell ⟨g,1,none⟩ (.int .i64 ((nm:Int)+1))) ad cp ys∧ys.length≤100∧(mb=true→ys=msgL y):=by
  cases hmb:mb
  ·exact⟨[],none,0,hn1 hmb,SlOf.nil _ _ _,by simp,fun h=>by cases h⟩
  ·have h2:=(ho1 hmb).setAt hk1 (by decide) 1 (.int .i64 ((nm:Int)+1));obtain⟨ad,cp,e,hs⟩:=h2.shape;exact⟨msgL y,ad,cp,e,hs,HML.out hmb,fun _=>rfl⟩
 subst hv1;have HYT:=Qh hyt;clear ho1 hn1 hb1 HW nb B1 BM hk1 HML hyt cM;generalize hyn:ys.length=yn at *;go_wp2_with (at_builtin;go_loud (refine wpList_append_sl2 txs_ty Ls ys enTx_len (fun y _=>enTx_one y) hys HM1.out.own HM1.out.bel hbz (by omega) ?_ (hx:=by rw[hyn];rfl)))
 rintro v2 w2 hown2 hb2 hg2;obtain⟨a5,n5,c5,hv5⟩:∃ a n c,v2=.slice a n c:=by obtain⟨a5,c5,e,-⟩:=hown2.shape;exact⟨_,_,_,e⟩
 subst hv5;obtain⟨hw3,B3⟩:=HM1.out.grow hown2 hb2 hg2;rw[show((nm+1:Nat):Int)=(nm:Int)+1 by omega]at B3;have c0':=B3.cell 0 _ rfl;have r0':=B3.free 0;have c1':=B3.cell 1 _ rfl;have HW3:=Qh hw3;clear hown2 hb2 hg2 hw3 B3 m0 m0f m1 mf hys;cases mb
 ·have HV:=Qh (show B=false by rw[HB.out];rfl);go_wp2_with fail;go_ret;exact HP.out _ _ ⟨congrArg (fun z=>Ending.returned (.bool z)) HV.out.symm,HW3.out.bel,fun h=>by rw[HV.out]at h;cases h⟩
 ·have HYT2:=Qh (HYT.out rfl);by_cases h5:((nm:Int)+1≤512)
  ·have HV:=Qh (show B=true by rw[HB.out,decide_eq_true (show nm+1≤512 by omega)];rfl);go_wp2_with fail;go_ret;exact HP.out _ _ ⟨congrArg (fun z=>Ending.returned (.bool z)) HV.out.symm,HW3.out.bel,fun _=>⟨_,by rw[← HYT2.out];exact HW3.out⟩⟩
  ·have HV:=Qh (show B=false by rw[HB.out,decide_eq_false (show ¬ nm+1≤512 by omega)];rfl);go_wp2_with fail;go_ret;exact HP.out _ _ ⟨congrArg (fun z=>Ending.returned (.bool z)) HV.out.symm,HW3.out.bel,fun h=>by rw[HV.out]at h;cases h⟩
set_option maxRecDepth 100000 in theorem part_tab (y : TabD) (hy : TabOK y) (w0 : World) (base g nm : Nat) (tb : Bool) (Ls : List (List UInt8)) (hL : Ls.length ≤ 100000000) (hbz : base ≤ w0.heap.size) (w : World) (v : Value) (h : WrtW w0 base g nm tb Ls w v) (hT : TabsU w) (hp : PowTab w) (C : Array Value) (hC : rdTab w y C.toList) :
  Calls prog 23 #[.pointer (some ⟨g,0,none⟩),.iface 76 (.agg C)] w fun e w'=>PartPost w0 base g nm tb Ls (.tab y) e w':=by
 obtain⟨hC8,hC1⟩:=rdTab_one hC;have hC8:C.size=6:=hC8;have hC1:C.all (·.oneCell')=true:=hC1;obtain⟨B,hB⟩:∃ B,B=partB nm (.tab y):=⟨_,rfl⟩
 have HP:=Qh (show ∀ e w',(e=.returned (.bool B)∧Below base w0 w'∧(B=true→∃ v',WrtW w0 base g nm true (Ls++(if tb then [tabT y] else [[],tabT y])) w' v'))→PartPost w0 base g nm tb Ls (.tab y) e w' from fun e w' h=>by
  unfold PartPost;rw[← hB]
  simpa [nmN,isMsg,isTab,partL]using h)
 have HB:=Qh (show B=tabB y from hB);clear hB;obtain⟨nb,-,hbn⟩:=box1 w C 76;have cM:=ptable_any y hy _ C (last_rdTab _ _ _ _ hC hbn) (TabsU.keep hT hbn) (PowTab.keep hp hbn);rw[← HB.out]at cM;have HW:=Qh (h.alloc (.cells C 76));have hut:=underlying76;clear h hbn hT hp hC HB;have hVV:=asVV;have hVS:=asVS;have hVM:=asVM;have hVT:=asVT;have hSV:=asSV;have hSS:=asSS;have hSM:=asSM;have hST:=asST;have hMV:=asMV;have hMS:=asMS;have hMM:=asMM;have hMT:=asMT;have hTV:=asTV;have hTS:=asTS;have hTM:=asTM;have hTT:=asTT;obtain⟨tx,htx⟩:∃ t,t=(if B=true then tabT y else []):=⟨_,rfl⟩
 rw[← htx]at cM;have HTX:=Qh htx;clear htx;have nbz:Blk (w.alloc (.cells zeroTabD 76)) w.heap.size zeroTabD:=Blk.new _ _ _;go_enter func23,ntmps23
 go_wp2_with (first|(refine wpList_storeS (cs:=C) nbz 76 (.tmp 14) (.tmp 101) (by rw[hC8];exact tab_size) (by rw[hC8];rfl) hC1 ?_;rw[World.setRow_alloc_new])|(refine wpList_loadS nb 76 (.tmp 14) hut (by rw[hC8];exact tab_size) ?_))
 clear nbz;(with_reducible refine cM.mono ?_);rintro e w1 ⟨rfl,hb1⟩;have HW1:=Qh (HW.out.keep hb1);have B1:Blk w1 g #[v,.int .i64 (nm:Nat),.bool tb]:=⟨_,HW1.out.blk⟩
 have m0:=B1.cell 0 _ rfl;have m2:=B1.cell 2 _ rfl;have mf2:=B1.free 2;have hlt0:=B1.lt;clear hb1 HW nb B1 cM;cases tb
 ·have HH:=Qh (show ∀ e w',(e=.returned (.bool B)∧Below base w0 w'∧(B=true→∃ v',WrtW w0 base g nm true (Ls++[[],tx]) w' v'))→PartPost w0 base g nm false Ls (.tab y) e w' from fun e w' ⟨h1,h2,h3⟩=>HP.out e w' ⟨h1,h2,fun hB=>by
   obtain⟨v',h⟩:=h3 hB;rw[HTX.out,if_pos hB]at h;exact⟨v',h⟩⟩)
  go_wp2_with (at_builtin;go_loud (refine wpList_append_elem3 txs_ty Ls [] HW1.out.own HW1.out.bel hbz (by omega) ?_ (hone:=by simp[enTx,Value.oneCell'])))
  rintro v2 w2 hown2 hb2 hg2 -;obtain⟨a5,n5,c5,hv5⟩:∃ a n c,v2=.slice a n c:=by obtain⟨a5,c5,e,-⟩:=hown2.shape;exact⟨_,_,_,e⟩
  subst hv5;obtain⟨hw3,B3⟩:=HW1.out.grow hown2 hb2 hg2;have c0':=B3.cell 0 _ rfl;have r0':=B3.free 0;have c2':=B3.cell 2 _ rfl;have r2':=B3.free 2;have HW3:=Qh (hw3.tabs true);have B4:Blk ((w2.setCell ⟨g,0,none⟩ (.slice a5 n5 c5)).setCell ⟨g,2,none⟩ (.bool true)) g #[.slice a5 n5 c5,.int .i64 (nm:Nat),.bool true]:=⟨_,HW3.out.blk⟩
  have d0:=B4.cell 0 _ rfl;clear hown2 hb2 hg2 hw3 B3 m0 m2 mf2 B4;go_wp2_with (at_builtin;go_loud (refine wpList_append_elem3 txs_ty (Ls++[[]]) tx HW3.out.own HW3.out.bel hbz (by simp;omega) ?_ (hx:=by rw[show((w2.setCell ⟨g,0,none⟩ (.slice a5 n5 c5)).setCell ⟨g,2,none⟩ (.bool true)).heap.size=w2.heap.size by simp[World.setCell]];rfl) (hone:=by simp[enTx,Value.oneCell'])))
  rintro v2 w4 hown2 hb2 hg2 -;obtain⟨a6,n6,c6,hv6⟩:∃ a n c,v2=.slice a n c:=by obtain⟨a5,c5,e,-⟩:=hown2.shape;exact⟨_,_,_,e⟩
  subst hv6;obtain⟨hw5,B5⟩:=HW3.out.grow hown2 hb2 hg2;have k0:=B5.cell 0 _ rfl;have kf:=B5.free 0;have HW5:=Qh hw5;clear hown2 hb2 hg2 hw5 B5 d0 c0' r0' c2' r2';go_wp2_with fail;go_ret;exact HH.out _ _ ⟨rfl,HW5.out.bel,fun hB=>⟨.slice a6 n6 c6,by first|exact HW5.out|(have h:=HW5.out;rw[List.append_assoc]at h;exact h)⟩⟩
 ·have HH:=Qh (show ∀ e w',(e=.returned (.bool B)∧Below base w0 w'∧(B=true→∃ v',WrtW w0 base g nm true (Ls++[tx]) w' v'))→PartPost w0 base g nm true Ls (.tab y) e w' from fun e w' ⟨h1,h2,h3⟩=>HP.out e w' ⟨h1,h2,fun hB=>by
   obtain⟨v',h⟩:=h3 hB;rw[HTX.out,if_pos hB]at h;exact⟨v',h⟩⟩)
  have HW3:=Qh (HW1.out.tabs true);have B4:Blk (w1.setCell ⟨g,2,none⟩ (.bool true)) g #[v,.int .i64 (nm:Nat),.bool true]:=⟨_,HW3.out.blk⟩
  have d0:=B4.cell 0 _ rfl;clear B4;go_wp2_with (at_builtin;go_loud (refine wpList_append_elem3 txs_ty Ls tx HW3.out.own HW3.out.bel hbz (by omega) ?_ (hx:=by rw[show(w1.setCell ⟨g,2,none⟩ (.bool true)).heap.size=w1.heap.size by simp[World.setCell]];rfl) (hone:=by simp[enTx,Value.oneCell'])))
  rintro v2 w4 hown2 hb2 hg2 -;obtain⟨a6,n6,c6,hv6⟩:∃ a n c,v2=.slice a n c:=by obtain⟨a5,c5,e,-⟩:=hown2.shape;exact⟨_,_,_,e⟩
  subst hv6;obtain⟨hw5,B5⟩:=HW3.out.grow hown2 hb2 hg2;have k0:=B5.cell 0 _ rfl;have kf:=B5.free 0;have HW5:=Qh hw5;clear hown2 hb2 hg2 hw5 B5 d0 m0 m2 mf2;go_wp2_with fail;go_ret;exact HH.out _ _ ⟨rfl,HW5.out.bel,fun hB=>⟨.slice a6 n6 c6,HW5.out⟩⟩
theorem part_any (n:NodeD) (hok:NodOK n) (w0:World) (base g nm:Nat) (hnm:nm≤100000000) (tb:Bool) (Ls:List (List UInt8)) (hL:Ls.length≤100000000) (hbz:base≤w0.heap.size) (w:World) (v:Value) (h:WrtW w0 base g nm tb Ls w v) (hT:TabsU w) (hp:PowTab w) (x:Value) (hx:rdNode w n [x]) :
  Calls prog 23 #[.pointer (some ⟨g,0,none⟩),x] w fun e w'=>PartPost w0 base g nm tb Ls n e w':=by
 cases n with
 | ver y=>
  obtain rfl:x=.iface 31 (.agg y.cells):=by have h:[x]=[.iface 31 (.agg y.cells)]:=hx;simpa using h
  exact part_ver y hok w0 base g nm tb Ls hL hbz w v h hT _ rfl
 | sta y=>
  obtain⟨C,e,hC⟩:=hx;obtain rfl:x=.iface 34 (.agg C):=by simpa using e
  exact part_sta y hok.1 hok.2 w0 base g nm tb Ls hL hbz w v h C hC
 | msg y=>
  obtain⟨C,e,hC⟩:=hx;obtain rfl:x=.iface 72 (.agg C):=by simpa using e
  exact part_msg y hok w0 base g nm hnm tb Ls hL hbz w v h hT hp C hC
 | tab y=>
  obtain⟨C,e,hC⟩:=hx;obtain rfl:x=.iface 76 (.agg C):=by simpa using e
  exact part_tab y hok w0 base g nm tb Ls hL hbz w v h hT hp C hC
theorem partL_len (nm:Nat) (tb:Bool) (n:NodeD) (h:partB nm n=true):(partL tb n).length≤100:=by
 cases n with
 | ver y=>simp[partL]
 | sta y=>simp[partL]
 | msg y=>
  simp only[partB,msgB,Bool.and_eq_true,decide_eq_true_eq]at h;simp only[partL,msgL,List.length_cons,List.length_map];omega
 | tab y=>show(if tb=true then [tabT y] else [[],tabT y]).length≤100;cases tb<;>simp
theorem partL_ne (tb:Bool) (n:NodeD):partL tb n≠[]:=by
 cases n with
 | ver y=>simp[partL]
 | sta y=>simp[partL]
 | msg y=>simp[partL,msgL]
 | tab y=>show(if tb=true then [tabT y] else [[],tabT y])≠[];cases tb<;>simp
theorem filB_cons (n:Nat) (x:NodeD) (l:List NodeD):filB n (x::l)=(partB n x && filB (nmN n x) l):=rfl
theorem filL_cons (b:Bool) (x:NodeD) (l:List NodeD):filL b (x::l)=partL b x++filL (b || isTab x) l:=rfl
theorem filL_nonempty (tb:Bool) (l:List NodeD) (h:l≠[]):filL tb l≠[]:=by
 cases l with
 | nil=>exact absurd rfl h
 | cons x l=>unfold filL;intro e;exact partL_ne tb x (List.append_eq_nil_iff.1 e).1
def pfilV (l:List NodeD):Value:=match gatL 0 0 DbD.zero l with
 | .bad no i=>.tuple #[.string ⟨#[]⟩,.iface 52 (.agg #[.int .i64 (no:Nat),.int .i64 0,.int .i64 (i:Nat)])]
 | .good _=>if filB 0 l then (if (linesT (filL false l)).length≤1048576 then .tuple #[.string ⟨(linesT (filL false l)).toArray⟩,.nilIface] else .tuple #[.string ⟨#[]⟩,errV 5]) else .tuple #[.string ⟨#[]⟩,errV 4]
theorem fdDb_one {w:World} {x:DbD} {C:Array Value} (h:fdDb w x C.toList):C.size=9∧C.all (·.oneCell')=true:=by
 obtain⟨u,v,z,e,h1,h2,h3⟩:=h;obtain⟨a1,c1,rfl,-⟩:=h1.shape;obtain⟨a2,c2,rfl,-⟩:=h2.shape;obtain⟨a3,c3,rfl,-⟩:=h3.shape;rw[Array.toList_inj.1 e];exact⟨rfl,DbD.cells_one _ _ _ _ _ _ _ _ _ _⟩
set_option maxRecDepth 100000 in theorem pfile_any (l : List NodeD) (hok : ∀ n ∈ l, NodOK n) (hfit : ∀ n ∈ l, NodFit n) (hl : l.length ≤ 1000000) (hlen : filB 0 l = true → (linesT (filL false l)).length ≤ 100000000000000) (n : Nat) (hn : n = l.length) (a : Option Addr) (cap : Nat) (w : World) (hs : SlRd w rdNode 1 a cap l) (hT : TabsU w) (hp : PowTab w) :
  Calls prog 8 #[.slice a n cap] w fun e w'=>e=.returned (pfilV l)∧Below w.heap.size w w':=by
 have cG:=gather_any l hfit n hn (by omega) a cap w hs;subst hn;obtain⟨V,hV⟩:∃ V,V=pfilV l:=⟨_,rfl⟩
 rw[← hV];unfold pfilV at hV;have hu:=underlying38;have HNE:Hid (∀ d,gatL 0 0 DbD.zero l=.good d→l≠[]):=Qh (fun d h=>by rintro rfl;simp[gatL]at h);obtain⟨R,hR⟩:∃ R,R=gatL 0 0 DbD.zero l:=⟨_,rfl⟩
 rw[← hR]at hV cG HNE;clear hR;cases R with
 | bad no i=>
  have HV:=Qh hV;clear hV HNE hs hT hp hlen;unfold gatV at cG;go_enter func8,ntmps8
  go_wp2_with fail;(with_reducible refine cG.mono ?_);rintro e w1 ⟨v,rfl,rfl,hb⟩;go_wp2_with (refine wpList_newS (Z:=zeroDb) (cs:=zeroDb) 38 (.tmp 4) (.tmp 13) db_zero rfl zeroDb_one ?_)
  go_ret2
  exact⟨congrArg Ending.returned HV.out.symm,hb.alloc hb.size _⟩
 | good d=>
  have hne:=HNE.out d rfl;have HTU:=Qh (fun W (h:Below w.heap.size w W)=>TabsU.keep hT h);have HPT:=Qh (fun W (h:Below w.heap.size w W)=>PowTab.keep hp h);have HBAD:=Qh (show filB 0 l=false→V=.tuple #[.string ⟨#[]⟩,errV 4]from fun h=>by rw[hV,h];rfl);have HLONG:=Qh (show filB 0 l=true→¬ (linesT (filL false l)).length≤1048576→V=.tuple #[.string ⟨#[]⟩,errV 5]from fun h h2=>by rw[hV,h];simp only[if_true];rw[if_neg h2]);have HGOOD:=Qh (show filB 0 l=true→(linesT (filL false l)).length≤1048576→V=.tuple #[.string ⟨(linesT (filL false l)).toArray⟩,.nilIface]from fun h h2=>by rw[hV,h];simp only[if_true];rw[if_pos h2]);have HJ:=Qh (linesT_join (filL false l) (filL_nonempty false l hne));have HLEN:=Qh hlen;have HS:=Qh hs;clear hV HNE hne hT hp hlen hs;unfold gatV at cG;unfold errV at HBAD HLONG;go_enter func8,ntmps8
  go_wp2_with fail;(with_reducible refine cG.mono ?_);rintro e w1 ⟨v,rfl,⟨C,rfl,hfd⟩,hb⟩;obtain⟨hC9,hC1⟩:=fdDb_one hfd;have hb1:=hb.alloc hb.size (.cells C 38);obtain⟨W1,hW1⟩:∃ W1,W1=w1.alloc (.cells C 38):=⟨_,rfl⟩
  have hw0:=heap_alloc_new W1 (.cells #[.slice none 0 0,.int .i64 0,.bool false] 79);have HW:Hid (WrtW w w.heap.size W1.heap.size 0 false [] (W1.alloc (.cells #[.slice none 0 0,.int .i64 0,.bool false] 79)) (.slice none 0 0)):=Qh ⟨by rw[hW1];exact hb1.alloc hb1.size _,by rw[hW1];exact hb1.size,hw0,Owns.nil _ _ _ _ _⟩;rw[hW1,World.size_alloc]at HW;clear cG hfd hb hb1 hw0 hW1 W1;go_wp2_with (refine wpList_newS (Z:=zeroDb) (cs:=C) 38 (.tmp 4) (.tmp 13) (by rw[hC9];exact db_zero) (by rw[hC9];rfl) hC1 ?_)
  have h0t:w.heap.size≤w1.heap.size+1:=(by have:=HW.out.ge;omega);go_loopw [20] (fun i wr=>∃ (k nm:Nat) (tb:Bool) (Ls:List (List UInt8)) (v:Value),k≤l.length∧i=.int .i64 (k:Nat)∧filB 0 l=filB nm (l.drop k)∧filL false l=Ls++filL tb (l.drop k)∧Ls.length≤100*k∧nm≤k∧WrtW w w.heap.size (w1.heap.size+1) nm tb Ls wr v) (fun i _=>l.length - (intOf i).toNat)
  case atStart=>exact⟨0,0,false,[],_,Nat.zero_le _,rfl,rfl,rfl,by simp,by simp,HW.out⟩
  case round=>
   clear HW;obtain⟨k,nm,tb,Ls,v,hk,rfl,hB,hT,hLn,hnm,hw⟩:=hrel;have hbel:=hw.bel;by_cases hlt:(k:Int) < l.length
   ·have hlt':k < l.length:=(by omega);obtain⟨bb,oo,rfl,hb,cs,hcl,hrd,hrg⟩:=SlRd.at (HS.out.keep last_rdNode hbel) (by decide) hlt';have hok':=hok _ (List.getElem_mem hlt');rw[List.drop_eq_getElem_cons hlt']at hB hT;rw[filB_cons]at hB;rw[filL_cons]at hT;generalize l[k]=y at *;obtain⟨x,rfl⟩:∃ x,cs=[x]:=by
     match cs,hcl with
     | [x],_=>exact⟨x,rfl⟩
    have hc:wr.cell? ⟨bb,oo+k,none⟩=some x:=(by simpa using hrg 0 _ rfl);have cP:=part_any y hok' w w.heap.size (w1.heap.size+1) nm (by omega) tb Ls (by omega) lrf wr v hw (HTU.out _ hbel) (HPT.out _ hbel) x hrd;have hpl:=partL_len nm tb y;have HB:=Qh hB;have HT:=Qh hT;have HPL:=Qh hpl;clear hrg hcl hB hT hw hrd hbel hpl hb;go_wp2_with fail;(with_reducible refine cP.mono ?_);rintro e w6 ⟨rfl,hb6,hw6⟩;have HW6:=Qh hw6;have HB6:=Qh hb6;clear cP hc hw6 hb6;generalize partB nm y=pb at *;cases pb
    ·have HV:=Qh (HBAD.out (by rw[HB.out];rfl));go_wp2_with fail;go_ret2
     exact⟨congrArg Ending.returned HV.out.symm,HB6.out⟩
    ·obtain⟨v',hw'⟩:=HW6.out rfl;have h1:=HPL.out rfl;have HB2:=Qh (show filB 0 l=filB (nmN nm y) (l.drop (k+1))by rw[HB.out];rfl);have HT2:=Qh (show filL false l=(Ls++partL tb y)++filL (tb || isTab y) (l.drop (k+1))by rw[HT.out,List.append_assoc]);have HW7:=Qh hw';have hn7:nmN nm y≤k+1:=(by unfold nmN;split<;>omega);clear hw' HW6 HB HT HPL;go_wp2_with fail;go_roundw;case rel=>exact⟨k+1,nmN nm y,tb || isTab y,Ls++partL tb y,v',by omega,by go_num,HB2.out,HT2.out,by rw[List.length_append];omega,hn7,HW7.out⟩
     case measure=>simp[intOf];omega
   ·obtain rfl:k=l.length:=by omega
    rw[List.drop_length]at hB hT;have hB1:filB 0 l=true:=hB;have hT1:filL false l=Ls:=(by rw[hT];exact List.append_nil _);have hlen:=HLEN.out hB1;have HL2:=Qh (HLONG.out hB1);have HG2:=Qh (HGOOD.out hB1);have hJ:=HJ.out;rw[hT1]at hJ hlen HL2 HG2;obtain⟨a2,n2,c2,hv2,hn2,hs2⟩:∃ a n c,v=.slice a n c∧n=Ls.length∧SlX wr a c Ls:=by obtain⟨a5,c5,e,h⟩:=hw.own.shape;exact⟨_,_,_,e,rfl,h⟩
    subst hv2;have hjl:(Lib.join Ls [10]).length≤100000000000000:=by
     have:=congrArg List.length hJ;rw[List.length_append]at this;omega
    have cJ:=pjoin2_any [10] Ls n2 hn2 a2 c2 wr hs2 (by omega) (by omega);have BW:Blk wr (w1.heap.size+1) #[.slice a2 n2 c2,.int .i64 (nm:Nat),.bool tb]:=⟨_,hw.blk⟩
    have c0:=BW.cell 0 _ rfl;have HBW:=Qh hbel;generalize hTT:linesT Ls=TT at *;generalize Lib.join Ls [10]=JJ at *;have hcat:=strA JJ [10];rw[hJ]at hcat;have hnl:¬ (9223372036854775807 < JJ.length+1):=(by omega);have hTl:TT.length=JJ.length+1:=(by rw[← hJ];simp);clear hB hT hB1 hT1 hs2 hw BW hn2 hJ HJ HLEN hTT hbel HBAD HLONG HGOOD hlen;go_wp2_with fail;(with_reducible refine cJ.mono ?_);rintro e w6 ⟨rfl,hb6⟩;have HB6:=Qh (bstep HBW.out hb6 lrf);clear cJ hb6 c0;by_cases hl5:(1048576:Int) < TT.length
    ·have HV:=Qh (HL2.out (by omega));have hb5:decide ((1048576:Int) < TT.length)=true:=decide_eq_true hl5;clear hl5 hTl;go_wp2_with fail;go_ret2
     exact⟨congrArg Ending.returned HV.out.symm,HB6.out⟩
    ·have HV:=Qh (HG2.out (by omega));have hb5:decide ((1048576:Int) < TT.length)=false:=decide_eq_false hl5;clear hl5 hTl;go_wp2_with fail;go_ret2
     exact⟨congrArg Ending.returned HV.out.symm,HB6.out⟩
end Go.Proofs.YtkblpaabknjckaaGreatDoor
