/-
  Noted: all lists within parts.
-/
import Derived.Test.YtlacjhjckkablaaGreatDoorBaseD
import Derived.Test.YtlacjhjckkablaaGreatDoorPrsK
import Derived.Test.YtlacjhjckkablaaGreatDoorBaseC
import Derived.Test.YtlacjhjckkablaaGreatDoorCopC
import Derived.Test.YtlacjhjckkablaaGreatDoorHeldP
import Derived.Test.YtlacjhjckkablaaGreatDoorIsnA
set_option maxHeartbeats 128000000
set_option linter.unusedVariables false
namespace Go.Proofs.YtlacjhjckkablaaGreatDoor
open Go.Proofs.Tryz
open Go.RowKit
theorem txl_ty:SlTy prog 45 31 1 24:=SlTy.mk' (.slice none 0 0) underlying45 (by kernel_rfl) rfl (by decide) (by decide)
theorem rwl_ty:SlTy prog 49 109 1 24:=SlTy.mk' (.slice none 0 0) underlying49 (by kernel_rfl) rfl (by decide) (by decide)
theorem sgl_ty:SlTy prog 54 75 1 24:=SlTy.mk' (.slice none 0 0) underlying54 (by kernel_rfl) rfl (by decide) (by decide)
def bookC (u v z:Value):Array Value:=#[.slice none 0 0,u,.slice none 0 0,.slice none 0 0,.slice none 0 0,v,.slice none 0 0,.slice none 0 0,.slice none 0 0,.slice none 0 0,z,.slice none 0 0,.slice none 0 0,.slice none 0 0,.slice none 0 0]
structure BookAt (w0 w:World) (kb:Nat) (TX RW SG:List Value):Prop where
 ex:∃ u v z,w.heap[kb]? = some (.cells (bookC u v z) 60)∧Owns w w0.heap.size 31 1 enV u TX∧Owns w w0.heap.size 109 1 enV v RW∧Owns w w0.heap.size 75 1 enV z SG
 only:Only kb w0 w
 lt:kb < w0.heap.size
theorem BookAt.keep {w0 w w':World} {kb:Nat} {TX RW SG:List Value} (h:BookAt w0 w kb TX RW SG) (hb:Below w.heap.size w w'):BookAt w0 w' kb TX RW SG:=by
 obtain⟨⟨u,v,z,h1,h2,h3,h4⟩,h5,h6⟩:=h;exact⟨⟨u,v,z,kind_at h1 hb,h2.keep hb lrf,h3.keep hb lrf,h4.keep hb lrf⟩,h5.trans (Only.of_below kb hb),h6⟩
set_option maxRecDepth 100000 in theorem texts_any (x : Value) (hx : ∃ a n c, x = .slice a n c) (w0 : World) (kb : Nat) (TX RW SG : List Value) (hl : TX.length ≤ 100000000) (w : World) (h : BookAt w0 w kb TX RW SG) :
  Calls prog 91 #[.pointer (some ⟨kb,0,none⟩),x] w fun e w'=>e=.returned (.tuple #[])∧BookAt w0 w' kb (TX++[x]) RW SG:=by
 obtain⟨xa,xn,xc,rfl⟩:=hx;obtain⟨⟨u,v,z,hc,ht,hr,hs⟩,ho,hlt⟩:=h;obtain⟨ca,cc,e0,-⟩:=ht.shape;subst e0;have f1:=Blk.cell ⟨_,hc⟩ 1 _ rfl;have HC:=Qh hc;have HT:=Qh ht;have HR:=Qh hr;have HS:=Qh hs;have HO:=Qh ho;have hsz:w0.heap.size≤w.heap.size:=ho.size;clear hc ht hr hs ho;go_enter func91,ntmps91
 go_wp2_with (at_builtin;go_loud (refine wpList_append_elem3 (en:=enV) txl_ty TX (.slice xa xn xc) HT.out (Below.refl w0.heap.size w) hsz (by omega) ?_ (hone:=by simp[enV,Value.oneCell'])))
 rintro v6 W6 hown6 hb6 hgr6 -;obtain⟨a6,n6,c6,hv6⟩:∃ a n c,v6=.slice a n c:=by obtain⟨a6,c6,e,-⟩:=hown6.shape;exact⟨_,_,_,e⟩
 subst hv6;have HC6:=Qh (heap_grown2 HC.out HT.out (by decide) hgr6);have HO6:=Qh (Only.low HO.out hb6);have f2:=Blk.cell ⟨_,HC6.out⟩ 1 _ rfl;have r2:=Blk.free ⟨_,HC6.out⟩ 1;have HR6:=Qh (HR.out.grown2 HT.out (by decide) hgr6);have HS6:=Qh (HS.out.grown2 HT.out (by decide) hgr6);have HT6:=Qh hown6;clear hown6 hb6 hgr6;go_wp2_with fail;refine⟨rfl,.tuple #[],by simp[results,results91],rfl,⟨⟨(.slice a6 n6 c6),v,z,set_at HC6.out 1 (.slice a6 n6 c6),?_,?_,?_⟩,HO6.out.set 1 _,hlt⟩⟩
 ·exact HT6.out.apt (by decide) HC6.out (fun b _ hne=>Below.heap_setCell _ ⟨kb,1,none⟩ _ b hne)
 ·exact HR6.out.apt (by decide) HC6.out (fun b _ hne=>Below.heap_setCell _ ⟨kb,1,none⟩ _ b hne)
 ·exact HS6.out.apt (by decide) HC6.out (fun b _ hne=>Below.heap_setCell _ ⟨kb,1,none⟩ _ b hne)
set_option maxRecDepth 100000 in theorem rows_any (x : Value) (hx : ∃ a n c, x = .slice a n c) (w0 : World) (kb : Nat) (TX RW SG : List Value) (hl : RW.length ≤ 100000000) (w : World) (h : BookAt w0 w kb TX RW SG) :
  Calls prog 93 #[.pointer (some ⟨kb,0,none⟩),x] w fun e w'=>e=.returned (.tuple #[])∧BookAt w0 w' kb TX (RW++[x]) SG:=by
 obtain⟨xa,xn,xc,rfl⟩:=hx;obtain⟨⟨u,v,z,hc,ht,hr,hs⟩,ho,hlt⟩:=h;obtain⟨ca,cc,e0,-⟩:=hr.shape;subst e0;have f1:=Blk.cell ⟨_,hc⟩ 5 _ rfl;have HC:=Qh hc;have HT:=Qh ht;have HR:=Qh hr;have HS:=Qh hs;have HO:=Qh ho;have hsz:w0.heap.size≤w.heap.size:=ho.size;clear hc ht hr hs ho;go_enter func93,ntmps93
 go_wp2_with (at_builtin;go_loud (refine wpList_append_elem3 (en:=enV) rwl_ty RW (.slice xa xn xc) HR.out (Below.refl w0.heap.size w) hsz (by omega) ?_ (hone:=by simp[enV,Value.oneCell'])))
 rintro v6 W6 hown6 hb6 hgr6 -;obtain⟨a6,n6,c6,hv6⟩:∃ a n c,v6=.slice a n c:=by obtain⟨a6,c6,e,-⟩:=hown6.shape;exact⟨_,_,_,e⟩
 subst hv6;have HC6:=Qh (heap_grown2 HC.out HR.out (by decide) hgr6);have HO6:=Qh (Only.low HO.out hb6);have f2:=Blk.cell ⟨_,HC6.out⟩ 5 _ rfl;have r2:=Blk.free ⟨_,HC6.out⟩ 5;have HT6:=Qh (HT.out.grown2 HR.out (by decide) hgr6);have HS6:=Qh (HS.out.grown2 HR.out (by decide) hgr6);have HR6:=Qh hown6;clear hown6 hb6 hgr6;go_wp2_with fail;refine⟨rfl,.tuple #[],by simp[results,results93],rfl,⟨⟨u,(.slice a6 n6 c6),z,set_at HC6.out 5 (.slice a6 n6 c6),?_,?_,?_⟩,HO6.out.set 5 _,hlt⟩⟩
 ·exact HT6.out.apt (by decide) HC6.out (fun b _ hne=>Below.heap_setCell _ ⟨kb,5,none⟩ _ b hne)
 ·exact HR6.out.apt (by decide) HC6.out (fun b _ hne=>Below.heap_setCell _ ⟨kb,5,none⟩ _ b hne)
 ·exact HS6.out.apt (by decide) HC6.out (fun b _ hne=>Below.heap_setCell _ ⟨kb,5,none⟩ _ b hne)
set_option maxRecDepth 100000 in theorem bsig_any (x : SigD) (xa : Option Addr) (xn xc : Nat) (w0 : World) (kb : Nat) (TX RW SG : List Value) (hl : TX.length ≤ 100000000) (w : World) (h : BookAt w0 w kb TX RW SG) :
  Calls prog 142 #[.pointer (some ⟨kb,0,none⟩),.agg (x.cells (.slice xa xn xc))] w fun e w'=>e=.returned (.tuple #[])∧BookAt w0 w' kb (TX++[.slice xa xn xc]) RW SG:=by
 have HK:=Qh (fun o:Obj=>h.keep ((Below.refl w.heap.size w).alloc lrf o));have HCC:=Qh (fun W hW=>texts_any (.slice xa xn xc) ⟨xa,xn,xc,rfl⟩ w0 kb TX RW SG hl W hW);clear h;unfold SigD.cells;go_enter func142,ntmps142
 go_wp2_with fail;with_reducible refine(HCC.out _ (HK.out _)).mono ?_
 rintro e w2 ⟨rfl,hB⟩;have HB:=Qh hB;clear hB;go_wp2_with fail;exact⟨rfl,.tuple #[],by simp[results,results142],rfl,HB.out⟩
set_option maxRecDepth 100000 in theorem bsta_any (x : StaD) (xa : Option Addr) (xn xc : Nat) (w0 : World) (kb : Nat) (TX RW SG : List Value) (hl : TX.length ≤ 100000000) (w : World) (h : BookAt w0 w kb TX RW SG) :
  Calls prog 38 #[.pointer (some ⟨kb,0,none⟩),.agg (x.cells (.slice xa xn xc))] w fun e w'=>e=.returned (.tuple #[])∧BookAt w0 w' kb (TX++[.slice xa xn xc]) RW SG:=by
 have HK:=Qh (fun o:Obj=>h.keep ((Below.refl w.heap.size w).alloc lrf o));have HCC:=Qh (fun W hW=>texts_any (.slice xa xn xc) ⟨xa,xn,xc,rfl⟩ w0 kb TX RW SG hl W hW);clear h;unfold StaD.cells;go_enter func38,ntmps38
 go_wp2_with fail;with_reducible refine(HCC.out _ (HK.out _)).mono ?_
 rintro e w2 ⟨rfl,hB⟩;have HB:=Qh hB;clear hB;go_wp2_with fail;exact⟨rfl,.tuple #[],by simp[results,results38],rfl,HB.out⟩
set_option maxRecDepth 100000 in theorem btab_any (x : TabD) (xa : Option Addr) (xn xc : Nat) (w0 : World) (kb : Nat) (TX RW SG : List Value) (hl : RW.length ≤ 100000000) (w : World) (h : BookAt w0 w kb TX RW SG) :
  Calls prog 40 #[.pointer (some ⟨kb,0,none⟩),.agg (x.cells (.slice xa xn xc))] w fun e w'=>e=.returned (.tuple #[])∧BookAt w0 w' kb TX (RW++[.slice xa xn xc]) SG:=by
 have HK:=Qh (fun o:Obj=>h.keep ((Below.refl w.heap.size w).alloc lrf o));have HCC:=Qh (fun W hW=>rows_any (.slice xa xn xc) ⟨xa,xn,xc,rfl⟩ w0 kb TX RW SG hl W hW);clear h;unfold TabD.cells;go_enter func40,ntmps40
 go_wp2_with fail;with_reducible refine(HCC.out _ (HK.out _)).mono ?_
 rintro e w2 ⟨rfl,hB⟩;have HB:=Qh hB;clear hB;go_wp2_with fail;exact⟨rfl,.tuple #[],by simp[results,results40],rfl,HB.out⟩
theorem Only.rangeAt {kp b off:Nat} {w w':World} {cs:List Value} (ho:Only kp w w') (hb:b < w.heap.size) (hne:b≠kp) (h:w.rangeAt b off cs):w'.rangeAt b off cs:=fun j v hv=>by
 have h1:=h j v hv;have e:=ho.block b hb (by simpa using hne);unfold World.cell? at h1 ⊢;simp only[e];exact h1
set_option maxRecDepth 100000 in theorem bsigs_any (ds : List (SigD × Value)) (hds : ∀ p ∈ ds, ∃ a n c, p.2 = .slice a n c) (b o cap : Nat) (w0 : World) (kb : Nat) (hb : b < w0.heap.size) (hne : b ≠ kb) (hrg : ∀ i (hi : i < ds.length), w0.rangeAt b (o + i * 19) (ds[i].1.cells ds[i].2).toList)
  (TX RW SG:List Value) (hl:TX.length+ds.length≤100000000) (hl2:SG.length≤100000000) (n:Nat) (hn:n=ds.length) (a:Option Addr) (ha:0 < ds.length→a=some ⟨b,o,none⟩) (w:World) (h:BookAt w0 w kb TX RW SG) :
  Calls prog 92 #[.pointer (some ⟨kb,0,none⟩),.slice a n cap] w fun e w'=>e=.returned (.tuple #[])∧BookAt w0 w' kb (TX++ds.map (·.2)) RW (SG++[.slice a n cap]):=by
 subst hn;obtain⟨⟨u,v,z,hc,ht,hr,hs⟩,ho,hlt⟩:=h;obtain⟨ca,cc,e0,-⟩:=hs.shape;subst e0;have f1:=Blk.cell ⟨_,hc⟩ 10 _ rfl;have HC:=Qh hc;have HT:=Qh ht;have HR:=Qh hr;have HS:=Qh hs;have HO:=Qh ho;have HRG:=Qh hrg;have hsz:w0.heap.size≤w.heap.size:=ho.size;have huS:=underlying82;clear hc ht hr hs ho hrg;go_enter func92,ntmps92
 go_wp2_with (at_builtin;go_loud (refine wpList_append_elem3 (en:=enV) sgl_ty SG (.slice a ds.length cap) HS.out (Below.refl w0.heap.size w) hsz (by omega) ?_ (hone:=by simp[enV,Value.oneCell'])))
 rintro v6 W6 hown6 hb6 hgr6 -;obtain⟨a6,n6,c6,hv6⟩:∃ a n c,v6=.slice a n c:=by obtain⟨a6,c6,e,-⟩:=hown6.shape;exact⟨_,_,_,e⟩
 subst hv6;have HC6:=Qh (heap_grown2 HC.out HS.out (by decide) hgr6);have HO6:=Qh (Only.low HO.out hb6);have f2:=Blk.cell ⟨_,HC6.out⟩ 10 _ rfl;have r2:=Blk.free ⟨_,HC6.out⟩ 10;have HT6:=Qh (HT.out.grown2 HS.out (by decide) hgr6);have HR6:=Qh (HR.out.grown2 HS.out (by decide) hgr6);have HB6:Hid (BookAt w0 (W6.setCell ⟨kb,10,none⟩ (.slice a6 n6 c6)) kb (TX++(ds.take 0).map (·.2)) RW (SG++[.slice a ds.length cap])):=Qh (by
  rw[List.take_zero,List.map_nil,List.append_nil];exact⟨⟨u,v,.slice a6 n6 c6,set_at HC6.out 10 (.slice a6 n6 c6),HT6.out.apt (by decide) HC6.out (fun b _ hne=>Below.heap_setCell _ ⟨kb,10,none⟩ _ b hne),HR6.out.apt (by decide) HC6.out (fun b _ hne=>Below.heap_setCell _ ⟨kb,10,none⟩ _ b hne),hown6.apt (by decide) HC6.out (fun b _ hne=>Below.heap_setCell _ ⟨kb,10,none⟩ _ b hne)⟩,HO6.out.set 10 _,hlt⟩)
 clear hown6 hb6 hgr6 f1 HC HT HR HS HO HC6 HO6 HT6 HR6;go_wp2_with fail;go_loopw [4] (fun kv wr=>∃ i:Nat,i≤ds.length∧kv=.int .i64 (i:Nat)∧BookAt w0 wr kb (TX++(ds.take i).map (·.2)) RW (SG++[.slice a ds.length cap])) (fun kv _=>ds.length - (intOf kv).toNat)
 case atStart=>exact⟨0,Nat.zero_le _,rfl,HB6.out⟩
 case round=>
  clear HB6;obtain⟨i,hi,rfl,hB⟩:=hrel;by_cases hlt2:(i:Int) < ds.length
  ·have hlt':i < ds.length:=(by omega);obtain⟨xa,xn,xc,hx⟩:=hds ds[i] (List.getElem_mem hlt');have r:=Only.rangeAt hB.only hb hne (HRG.out i hlt');have hap:=ha (by omega);have hTL:(TX++(ds.take i).map (·.2)).length≤100000000:=(by rw[List.length_append,List.length_map,List.length_take];omega);have cS:=bsig_any ds[i].1 xa xn xc w0 kb _ RW _ hTL wr hB;have hnx:TX++(ds.take i).map (·.2)++[.slice xa xn xc]=TX++(ds.take (i+1)).map (·.2):=by
    rw[← List.take_append_getElem hlt',List.map_append,List.append_assoc,← hx];rfl
   rw[hnx]at cS;rw[hx]at r;have HN:=Qh hnx;have HCS:=Qh cS;have hsz2:(prog.info? 82).map (·.size)=some ((ds[i].1.cells (.slice xa xn xc)).toList).length:=sig_size;subst hap;clear hx hnx cS hB hTL;generalize ds[i].1=D at *;generalize hCd:D.cells (.slice xa xn xc)=CD at *;clear hCd;go_wp2_with (refine wpList_load_mid rfl 82 (.tmp 24) rfl b (o+i*19) rfl _ _ r huS rfl hsz2 ?_;simp only[Array.toArray_toList])
   (with_reducible refine HCS.out.mono ?_);rintro e w2 ⟨rfl,hB2⟩;have HB2:=Qh hB2;clear hB2;go_wp2_with fail;go_roundw;case rel=>exact⟨i+1,by omega,by go_num,HB2.out⟩
   case measure=>simp[intOf];omega
  ·have hii:i=ds.length:=(by omega);have HBB:=Qh (show BookAt w0 wr kb (TX++ds.map (·.2)) RW (SG++[.slice a ds.length cap])by rw[hii,List.take_length]at hB;exact hB);clear hB hii;go_wp2_with fail;exact⟨rfl,.tuple #[],by simp[results,results92],rfl,HBB.out⟩
set_option maxRecDepth 100000 in theorem bmsg_any (x : MsgD) (ds : List (SigD × Value)) (hds : ∀ p ∈ ds, ∃ a n c, p.2 = .slice a n c) (b o cap : Nat) (w0 : World) (kb : Nat) (hb : b < w0.heap.size) (hne : b ≠ kb) (hrg : ∀ i (hi : i < ds.length), w0.rangeAt b (o + i * 19) (ds[i].1.cells ds[i].2).toList)
  (TX RW SG:List Value) (hl:TX.length+ds.length≤100000000) (hl2:SG.length≤100000000) (n:Nat) (hn:n=ds.length) (a:Option Addr) (ha:0 < ds.length→a=some ⟨b,o,none⟩) (w:World) (h:BookAt w0 w kb TX RW SG) :
  Calls prog 39 #[.pointer (some ⟨kb,0,none⟩),.agg (x.cells (.slice a n cap))] w fun e w'=>e=.returned (.tuple #[])∧BookAt w0 w' kb (TX++ds.map (·.2)) RW (SG++[.slice a n cap]):=by
 subst hn;have HK:=Qh (fun o:Obj=>h.keep ((Below.refl w.heap.size w).alloc lrf o));have HCC:=Qh (fun W hW=>bsigs_any ds hds b o cap w0 kb hb hne hrg TX RW SG hl hl2 ds.length rfl a ha W hW);clear h hrg hds ha;unfold MsgD.cells;go_enter func39,ntmps39
 go_wp2_with fail;with_reducible refine(HCC.out _ (HK.out _)).mono ?_
 rintro e w2 ⟨rfl,hB⟩;have HB:=Qh hB;clear hB;go_wp2_with fail;exact⟨rfl,.tuple #[],by simp[results,results39],rfl,HB.out⟩
theorem isn_other {P:Program} {t s:TypeId} {fs:Array Field} {z:Value} (hu:P.underlying s=some (.struct fs)) (hz:(P.info? s).map (·.zero)=some (some z)) (hne:t≠s) (v:Value) (xT:TypeId) (w:World):(Instr.typeAssert (.iface t v) xT s true).run P w=.ok (.tuple #[z,.bool false]) w:=by
 obtain⟨i,hi,hz⟩:=Option.map_eq_some_iff.1 hz;unfold Instr.typeAssert;simp only[Sem.run_bind,run_underlying hu,Result.andThen];simp[hne,zeroValue,typeInfo,hi,hz]
theorem notS {t:TypeId} (hne:t≠33) (v:Value) (xT:TypeId) (w:World):(Instr.typeAssert (.iface t v) xT 33 true).run prog w=.ok (.tuple #[.agg zeroStaD,.bool false]) w:=isn_other underlying33 (by kernel_rfl) hne v xT w
theorem notM {t:TypeId} (hne:t≠77) (v:Value) (xT:TypeId) (w:World):(Instr.typeAssert (.iface t v) xT 77 true).run prog w=.ok (.tuple #[.agg zeroMsgD,.bool false]) w:=isn_other underlying77 (by kernel_rfl) hne v xT w
theorem notT {t:TypeId} (hne:t≠111) (v:Value) (xT:TypeId) (w:World):(Instr.typeAssert (.iface t v) xT 111 true).run prog w=.ok (.tuple #[.agg zeroTabD,.bool false]) w:=isn_other underlying111 (by kernel_rfl) hne v xT w
inductive NodB where
 | ver (C:Array Value)
 | sta (x:StaD) (a:Option Addr) (n c:Nat)
 | msg (x:MsgD) (ds:List (SigD×Value)) (b o cap:Nat) (a:Option Addr)
 | tab (x:TabD) (a:Option Addr) (n c:Nat)
def NodB.val:NodB→Value
 | .ver C=>.iface 30 (.agg C)
 | .sta x a n c=>.iface 33 (.agg (x.cells (.slice a n c)))
 | .msg x ds b o cap a=>.iface 77 (.agg (x.cells (.slice a ds.length cap)))
 | .tab x a n c=>.iface 111 (.agg (x.cells (.slice a n c)))
def NodB.tx:NodB→List Value
 | .sta x a n c=>[.slice a n c]
 | .msg x ds b o cap a=>ds.map (·.2)
 | _=>[]
def NodB.rw:NodB→List Value
 | .tab x a n c=>[.slice a n c]
 | _=>[]
def NodB.sg:NodB→List Value
 | .msg x ds b o cap a=>[.slice a ds.length cap]
 | _=>[]
def NodB.OK (w0:World) (kb:Nat):NodB→Prop
 | .msg x ds b o cap a=>(∀ p∈ds,∃ a n c,p.2=.slice a n c)∧b < w0.heap.size∧b≠kb∧(∀ i (hi:i < ds.length),w0.rangeAt b (o+i*19) (ds[i].1.cells ds[i].2).toList)∧(0 < ds.length→a=some ⟨b,o,none⟩)
 | _=>True
theorem Only.cellAt {kp b off:Nat} {w w':World} {v:Value} (ho:Only kp w w') (hb:b < w.heap.size) (hne:b≠kp) (h:w.cell? ⟨b,off,none⟩=some v):w'.cell? ⟨b,off,none⟩=some v:=by
 have e:=ho.block b hb (by simpa using hne);unfold World.cell? at h ⊢;simp only[e];exact h
theorem flat_take {α:Type} {L:List NodB} (f:NodB→List α) (X:List α) {i:Nat} (hi:i < L.length):X++(L.take i).flatMap f++f L[i]=X++(L.take (i+1)).flatMap f:=by
 rw[← List.take_append_getElem hi,List.flatMap_append,List.append_assoc];simp
theorem flat_len {α:Type} {L:List NodB} (f:NodB→List α) (X:List α) {i:Nat} (hi:i < L.length):(X++(L.take i).flatMap f).length+(f L[i]).length≤(X++L.flatMap f).length:=by
 have h:=congrArg List.length (flat_take f X hi);rw[List.length_append]at h;have h2:((L.take (i+1)).flatMap f).length≤(L.flatMap f).length:=by
  conv=>rhs;rw[← List.take_append_drop (i+1) L,List.flatMap_append,List.length_append]
  omega
 simp only[List.length_append]at h ⊢;omega
set_option maxRecDepth 100000 in theorem noted_any (L : List NodB) (hL : L.length ≤ 100000000) (w0 : World) (kb : Nat) (hok : ∀ y ∈ L, y.OK w0 kb) (b o cap : Nat) (hb : b < w0.heap.size) (hne : b ≠ kb) (hc : ∀ i (hi : i < L.length), w0.cell? ⟨b, o + i, none⟩ = some L[i].val)
  (TX RW SG:List Value) (h1:(TX++L.flatMap NodB.tx).length≤100000000) (h2:(RW++L.flatMap NodB.rw).length≤100000000) (h3:(SG++L.flatMap NodB.sg).length≤100000000) (a:Option Addr) (ha:0 < L.length→a=some ⟨b,o,none⟩) (w:World) (h:BookAt w0 w kb TX RW SG) :
  Calls prog 10 #[.pointer (some ⟨kb,0,none⟩),.slice a L.length cap] w fun e w'=>e=.returned (.tuple #[])∧BookAt w0 w' kb (TX++L.flatMap NodB.tx) (RW++L.flatMap NodB.rw) (SG++L.flatMap NodB.sg):=by
 have HB0:Hid (BookAt w0 w kb (TX++(L.take 0).flatMap NodB.tx) (RW++(L.take 0).flatMap NodB.rw) (SG++(L.take 0).flatMap NodB.sg)):=Qh (by simpa using h);have HC:=Qh hc;have HOK:=Qh hok;have H1:=Qh h1;have H2:=Qh h2;have H3:=Qh h3;have hss:=isSS;have hmm:=isMM;have htt:=isTT;have hVS:=notS (t:=30) (by decide);have hVM:=notM (t:=30) (by decide);have hVT:=notT (t:=30) (by decide);have hMS:=notS (t:=77) (by decide);have hTS:=notS (t:=111) (by decide);have hTM:=notM (t:=111) (by decide);clear h hc hok h1 h2 h3;go_enter func10,ntmps10
 go_wp2_with fail;go_loopw [4] (fun kv wr=>∃ i:Nat,i≤L.length∧kv=.int .i64 (i:Nat)∧BookAt w0 wr kb (TX++(L.take i).flatMap NodB.tx) (RW++(L.take i).flatMap NodB.rw) (SG++(L.take i).flatMap NodB.sg)) (fun kv _=>L.length - (intOf kv).toNat)
 case atStart=>exact⟨0,Nat.zero_le _,rfl,HB0.out⟩
 case round=>
  clear HB0;obtain⟨i,hi,rfl,hB⟩:=hrel;by_cases hlt:(i:Int) < L.length
  ·have hlt':i < L.length:=(by omega);have HI:=Qh (show i+1≤L.length by omega);have hap:=ha (by omega);have hcl:=Only.cellAt hB.only hb hne (HC.out i hlt');have hoy:=HOK.out _ (List.getElem_mem hlt');have g1:=flat_len NodB.tx TX hlt';have g2:=flat_len NodB.rw RW hlt';have g3:=flat_len NodB.sg SG hlt';have b1:=H1.out;have b2:=H2.out;have b3:=H3.out;have e1:=flat_take NodB.tx TX hlt';have e2:=flat_take NodB.rw RW hlt';have e3:=flat_take NodB.sg SG hlt';have l1:(TX++(L.take i).flatMap NodB.tx).length+(NodB.tx L[i]).length≤100000000:=(by omega);have l2:(RW++(L.take i).flatMap NodB.rw).length+(NodB.rw L[i]).length≤100000000:=(by omega);have l3:(SG++(L.take i).flatMap NodB.sg).length+(NodB.sg L[i]).length≤100000000:=(by omega);subst hap;generalize TX++(L.take i).flatMap NodB.tx=A1 at *;generalize RW++(L.take i).flatMap NodB.rw=A2 at *;generalize SG++(L.take i).flatMap NodB.sg=A3 at *;have HB:=Qh hB;clear hB g1 g2 g3 b1 b2 b3;generalize L[i]=y at *;have HK:=Qh (fun o:Obj=>HB.out.keep ((Below.refl wr.heap.size wr).alloc lrf o));cases y with
   | ver C=>
    unfold NodB.val at hcl;have HE:Hid (BookAt w0 wr kb (TX++(L.take (i+1)).flatMap NodB.tx) (RW++(L.take (i+1)).flatMap NodB.rw) (SG++(L.take (i+1)).flatMap NodB.sg)):=Qh (by rw[← e1,← e2,← e3];simpa [NodB.tx,NodB.rw,NodB.sg]using HB.out);clear e1 e2 e3 l1 l2 l3 hoy;go_wp2_with fail;go_roundw;case rel=>exact⟨i+1,HI.out,by go_num,HE.out⟩
    case measure=>have hI:=HI.out;simp[intOf];omega
   | sta x xa xn xc=>
    unfold NodB.val at hcl;have cc:=Qh (fun W hW=>bsta_any x xa xn xc w0 kb A1 A2 A3 (by omega) W hW);have HE:=Qh (fun W (hW:BookAt w0 W kb (A1++[.slice xa xn xc]) A2 A3)=>show BookAt w0 W kb (TX++(L.take (i+1)).flatMap NodB.tx) (RW++(L.take (i+1)).flatMap NodB.rw) (SG++(L.take (i+1)).flatMap NodB.sg)by rw[← e1,← e2,← e3];simpa [NodB.tx,NodB.rw,NodB.sg]using hW);clear e1 e2 e3 l1 l2 l3 hoy;unfold StaD.cells at hcl cc;go_wp2_with fail;with_reducible refine(cc.out _ (HK.out _)).mono ?_
    rintro e w2 ⟨rfl,hB⟩;have HE2:=Qh (HE.out _ hB);clear hB;go_wp2_with fail;go_roundw;case rel=>exact⟨i+1,HI.out,by go_num,HE2.out⟩
    case measure=>have hI:=HI.out;simp[intOf];omega
   | msg x ds sb so scap sa=>
    unfold NodB.val at hcl;obtain⟨o1,o2,o3,o4,o5⟩:=hoy;have l1':A1.length+ds.length≤100000000:=(by simpa [NodB.tx]using l1);have cc:=Qh (fun W hW=>bmsg_any x ds o1 sb so scap w0 kb o2 o3 o4 A1 A2 A3 l1' (by omega) ds.length rfl sa o5 W hW);have HE:=Qh (fun W (hW:BookAt w0 W kb (A1++ds.map (·.2)) A2 (A3++[.slice sa ds.length scap]))=>show BookAt w0 W kb (TX++(L.take (i+1)).flatMap NodB.tx) (RW++(L.take (i+1)).flatMap NodB.rw) (SG++(L.take (i+1)).flatMap NodB.sg)by rw[← e1,← e2,← e3];simpa [NodB.tx,NodB.rw,NodB.sg]using hW);clear e1 e2 e3 l1 l1' l2 l3 o1 o2 o3 o4 o5;unfold MsgD.cells at hcl cc;go_wp2_with fail;with_reducible refine(cc.out _ (HK.out _)).mono ?_
    rintro e w2 ⟨rfl,hB⟩;have HE2:=Qh (HE.out _ hB);clear hB;go_wp2_with fail;go_roundw;case rel=>exact⟨i+1,HI.out,by go_num,HE2.out⟩
    case measure=>have hI:=HI.out;simp[intOf];omega
   | tab x xa xn xc=>
    unfold NodB.val at hcl;have cc:=Qh (fun W hW=>btab_any x xa xn xc w0 kb A1 A2 A3 (by omega) W hW);have HE:=Qh (fun W (hW:BookAt w0 W kb A1 (A2++[.slice xa xn xc]) A3)=>show BookAt w0 W kb (TX++(L.take (i+1)).flatMap NodB.tx) (RW++(L.take (i+1)).flatMap NodB.rw) (SG++(L.take (i+1)).flatMap NodB.sg)by rw[← e1,← e2,← e3];simpa [NodB.tx,NodB.rw,NodB.sg]using hW);clear e1 e2 e3 l1 l2 l3 hoy;unfold TabD.cells at hcl cc;go_wp2_with fail;with_reducible refine(cc.out _ (HK.out _)).mono ?_
    rintro e w2 ⟨rfl,hB⟩;have HE2:=Qh (HE.out _ hB);clear hB;go_wp2_with fail;go_roundw;case rel=>exact⟨i+1,HI.out,by go_num,HE2.out⟩
    case measure=>have hI:=HI.out;simp[intOf];omega
  ·have hii:i=L.length:=(by omega);have HBB:=Qh (show BookAt w0 wr kb (TX++L.flatMap NodB.tx) (RW++L.flatMap NodB.rw) (SG++L.flatMap NodB.sg)by rw[hii,List.take_length]at hB;exact hB);clear hB hii;go_wp2_with fail;exact⟨rfl,.tuple #[],by simp[results,results10],rfl,HBB.out⟩
end Go.Proofs.YtlacjhjckkablaaGreatDoor
