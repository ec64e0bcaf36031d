/-
  The reference's ten, of greater numbers.
-/
import Derived.Test.YtlacjhjckkablaaGreatDoorBaseD
import Derived.Test.YtlacjhjckkablaaGreatDoorParX
import Derived.Test.YtlacjhjckkablaaGreatDoorTxtP
import Derived.Test.YtlacjhjckkablaaGreatDoorNatT
set_option maxHeartbeats 128000000
set_option linter.unusedVariables false
namespace Go.Proofs.YtlacjhjckkablaaGreatDoor
open Go.Proofs.Tryz
open Go.RowKit
set_option maxRecDepth 100000 in theorem isDigit_any (c : UInt8) (w : World) :
  Calls prog 234 #[.int .u8 (c.toNat:Nat)] w fun e w'=>e=.returned (.bool (isDg c))∧w' = w:=by
 have HI:=Qh (isDg_iff c);obtain⟨b,hb⟩:∃ b,b=isDg c:=⟨_,rfl⟩
 rw[← hb];have HB:=Qh hb;clear hb;generalize hm:c.toNat=m at *;by_cases h1:(48:Int)≤m
 ·by_cases h2:(m:Int)≤57
  ·have HT:=Qh (show b=true by rw[HB.out];exact HI.out.2 ⟨by omega,by omega⟩);clear HI HB hm;go_enter func234,ntmps234
   go_wp2_with fail;go_ret;exact⟨by rw[HT.out];rfl,rfl⟩
  ·have HT:=Qh (show b=false by rw[HB.out,Bool.eq_false_iff];intro h;have:=HI.out.1 h;omega);clear HI HB hm;go_enter func234,ntmps234
   go_wp2_with fail;go_ret;exact⟨by rw[HT.out];rfl,rfl⟩
 ·have HT:=Qh (show b=false by rw[HB.out,Bool.eq_false_iff];intro h;have:=HI.out.1 h;omega);clear HI HB hm;go_enter func234,ntmps234
  go_wp2_with fail;go_ret;exact⟨by rw[HT.out];rfl,rfl⟩
set_option maxRecDepth 100000 in theorem digits_any (s : List UInt8) (i : Nat) (hs : s.length ≤ 1000000) (hi : i ≤ s.length) (w : World) :
  Calls prog 208 #[.string ⟨s.toArray⟩,.int .i64 i] w fun e w'=>e=.returned (.int .i64 (i+(tw (s.drop i)).length:Nat))∧w' = w:=by
 obtain⟨T,hT⟩:∃ T,T=i+(tw (s.drop i)).length:=⟨_,rfl⟩
 rw[← hT];have HT:=Qh hT;clear hT;go_enter func208,ntmps208
 go_wp2_with fail;go_loopw [1] (fun x wr=>∃ k:Nat,x=.int .i64 (k:Nat)∧k≤s.length∧T=k+(tw (s.drop k)).length∧wr=w) (fun x _=>s.length - (intOf x).toNat)
 case atStart=>exact⟨i,rfl,hi,HT.out,rfl⟩
 case round=>
  obtain⟨k,rfl,hk,hTk,rfl⟩:=hrel;by_cases hlt:(k:Int) < s.length
  ·have hlt':k < s.length:=(by omega);have hget:(⟨s.toArray⟩:ByteArray)[k]'hlt' = s[k]:=rfl;have hd:=List.drop_eq_getElem_cons hlt';rw[hd]at hTk;generalize s[k]=c at *;have cd:=isDigit_any c;cases hc:isDg c
   ·rw[tw_stop hc]at hTk;have HTK:=Qh (show T=k from hTk);rw[hc]at cd;clear hd hTk hc HT;go_wp2_with fail;with_reducible refine(cd _).mono ?_
    rintro e w1 ⟨rfl,rfl⟩;clear cd;go_wp2_with fail;go_ret;exact⟨by rw[HTK.out];rfl,rfl⟩
   ·rw[tw_cons hc]at hTk;have HTK:=Qh (show T=k+1+(tw (s.drop (k+1))).length by rw[hTk,List.length_cons];omega);rw[hc]at cd;clear hd hTk hc;go_wp2_with fail;with_reducible refine(cd _).mono ?_
    rintro e w1 ⟨rfl,rfl⟩;clear cd;go_wp2_with fail;go_roundw;case rel=>exact⟨k+1,by first|rfl|go_num,by omega,HTK.out,trivial⟩
    case measure=>(simp[intOf]<;>omega)
  ·have HTK:=Qh (show T=k by rw[hTk,show k=s.length by omega,List.drop_length];rfl);clear hTk HT;go_wp2_with fail;go_ret;exact⟨by rw[HTK.out];rfl,rfl⟩
set_option maxRecDepth 100000 in theorem power_any (l : List UInt8) (hl : l.length ≤ 1000000) (hd : digL l) (w : World) :
  Calls prog 183 #[.string ⟨l.toArray⟩] w fun e w'=>e=.returned (.int .i64 (powL l:Nat))∧w' = w:=by
 obtain⟨T,hT⟩:∃ T,T=powL l:=⟨_,rfl⟩
 rw[← hT];have HT:=Qh hT;have HD:=Qh hd;clear hT hd;go_enter func183,ntmps183
 go_wp2_with fail;go_loopw [3,4] (fun n x wr=>∃ k p:Nat,n=.int .i64 (p:Nat)∧x=.int .i64 (k:Nat)∧k≤l.length∧p≤1000∧p=powL (l.take k)∧wr=w) (fun _ x _=>l.length - (intOf x).toNat)
 case atStart=>exact⟨0,0,rfl,rfl,Nat.zero_le _,by decide,rfl,rfl⟩
 case round=>
  obtain⟨k,p,rfl,rfl,hk,hp,hpk,rfl⟩:=hrel;by_cases hlt:(k:Int) < l.length
  ·have hlt':k < l.length:=(by omega);have hget:(⟨l.toArray⟩:ByteArray)[k]'hlt' = l[k]:=rfl;have hc:=(isDg_iff l[k]).1 (HD.out _ (List.getElem_mem hlt'));have hsn:powL (l.take (k+1))=min (10*p+(l[k].toNat - 48)) 1000:=by
    rw[List.take_succ_eq_append_getElem hlt',hpk];unfold powL powS;rw[List.foldl_append];rfl
   have HSN:=Qh hsn;clear hsn hpk;generalize l[k]=c at *;have h1:(48:Int)≤c.toNat:=(by omega);have h2:(c.toNat:Int)≤57:=(by omega);go_wp2_with fail;go_roundw;case rel=>exact⟨k+1,min (10*p+(c.toNat - 48)) 1000,(by show Value.int _ _=Value.int _ _;congr 1;omega),by first|rfl|go_num,by omega,by omega,HSN.out.symm,trivial⟩
   case measure=>(simp[intOf]<;>omega)
  ·have HTK:=Qh (show T=p by rw[HT.out,hpk,show k=l.length by omega,List.take_length]);clear hpk HT;go_wp2_with fail;go_ret;exact⟨by rw[HTK.out];rfl,rfl⟩
theorem ext_mid (L:List UInt8) (i j:Nat) (hj:j≤L.length):(⟨L.toArray⟩:ByteArray).extract i j=⟨((L.drop i).take (j - i)).toArray⟩:=by
 have h:∀ (a b:ByteArray),a.data=b.data→a=b:=fun a b e=>by cases a;cases b;simp at e;rw[e]
 refine h _ _ (Array.ext' ?_);rw[Go.Lib.extract_data]
theorem dw_drop (l:List UInt8):dw l=l.drop (tw l).length:=by
 have h:=congrArg (List.drop (tw l).length) (show tw l++dw l=l from List.takeWhile_append_dropWhile)
 rwa [List.drop_left' rfl]at h
theorem tw_take (l:List UInt8):l.take (tw l).length=tw l:=by
 have h:=congrArg (List.take (tw l).length) (show tw l++dw l=l from List.takeWhile_append_dropWhile);rw[List.take_left' rfl]at h;exact h.symm
theorem tw_le (l:List UInt8):(tw l).length≤l.length:=by have:=tw_dw_len l;omega
theorem sub_tw (s:List UInt8) (i:Nat) (hi:i≤s.length):(⟨s.toArray⟩:ByteArray).extract i (i+(tw (s.drop i)).length)=⟨(tw (s.drop i)).toArray⟩:=by
 have h:=tw_le (s.drop i);rw[List.length_drop]at h;rw[ext_mid s i _ (by omega),Nat.add_sub_cancel_left,tw_take]
theorem cutS_drop (s:List UInt8):∃ i,i≤1∧i≤s.length∧s.drop i=(cutS s).2∧(∀ (h:0 < s.length),i=if isSg s[0]=true then 1 else 0)∧(cutS s).1=(match s with | []=>false|c::_=>if isSg c=true then c == 45 else false):=by
 cases s with
 | nil=>exact⟨0,by decide,by simp,rfl,fun h=>absurd h (by simp),rfl⟩
 | cons c t=>
  cases hs:isSg c
  ·exact⟨0,by decide,by simp,by rw[cutS_not hs];rfl,fun _=>by simp[hs],by rw[cutS_not hs];simp[hs]⟩
  ·exact⟨1,by decide,by simp,by rw[cutS_sg hs];rfl,fun _=>by simp[hs],by rw[cutS_sg hs];simp[hs]⟩
def CutOK (R:Option (Bool×Bool×List UInt8×List UInt8×List UInt8)) (neg down:Bool) (a b p:List UInt8) (ok:Bool):Prop:=
 match R with
 | none=>ok=false
 | some x=>ok=true∧x=(neg,down,a,b,p)
theorem Blk.five {w:World} {k:Nat} {a b c d e:Value} (h:Blk w k #[a,b,c,d,e]):w.cell? ⟨k,0,none⟩=some a∧w.cell? ⟨k,1,none⟩=some b∧w.cell? ⟨k,2,none⟩=some c∧w.cell? ⟨k,3,none⟩=some d∧w.cell? ⟨k,4,none⟩=some e∧w.frozen? ⟨k,0,none⟩=false∧w.frozen? ⟨k,1,none⟩=false∧w.frozen? ⟨k,2,none⟩=false∧w.frozen? ⟨k,3,none⟩=false∧w.frozen? ⟨k,4,none⟩=false:=
 ⟨h.cell 0 a rfl,h.cell 1 b rfl,h.cell 2 c rfl,h.cell 3 d rfl,h.cell 4 e rfl,h.free 0,h.free 1,h.free 2,h.free 3,h.free 4⟩
theorem sign_cases (s:List UInt8) (i:Nat) (hi:i≤s.length):∃ (j:Nat) (n sg:Bool),n=(cutS (s.drop i)).1∧i≤j∧j≤s.length∧s.drop j=(cutS (s.drop i)).2 ∧
  ((i=s.length∧j=i∧n=false∧sg=false)∨∃ h:i < s.length,(s[i].toNat=43∧j=i+1∧n=false∧sg=true)∨(s[i].toNat=45∧j=i+1∧n=true∧sg=true)∨(s[i].toNat≠43∧s[i].toNat≠45∧j=i∧n=false∧sg=false)):=by
 rcases Nat.lt_or_ge i s.length with h|h
 ·have hd:=List.drop_eq_getElem_cons h;by_cases hs:isSg s[i]=true
  ·refine⟨i+1,s[i] == 45,true,by rw[hd,cutS_sg hs],by omega,by omega,by rw[hd,cutS_sg hs],.inr ⟨h,?_⟩⟩;unfold isSg at hs;rw[Bool.or_eq_true,beq_iff_eq,beq_iff_eq]at hs;rcases hs with hs|hs
   ·exact .inl ⟨by rw[hs];rfl,rfl,by rw[hs];rfl,rfl⟩
   ·exact .inr (.inl ⟨by rw[hs];rfl,rfl,by rw[hs];rfl,rfl⟩)
  ·have hs':isSg s[i]=false:=(by simpa using hs);refine⟨i,false,false,by rw[hd,cutS_not hs'],lrf,by omega,by rw[hd,cutS_not hs'],.inr ⟨h,.inr (.inr ⟨fun h2=>hs ?_,fun h2=>hs ?_,rfl,rfl,rfl⟩)⟩⟩
   ·rw[show s[i]=43 from UInt8.toNat_inj.1 h2];rfl
   ·rw[show s[i]=45 from UInt8.toNat_inj.1 h2];rfl
 ·have e:i=s.length:=(by omega);subst e;exact⟨s.length,false,false,by rw[List.drop_length];rfl,lrf,lrf,by rw[List.drop_length];rfl,.inl ⟨rfl,rfl,rfl,rfl⟩⟩
def cutT (n1:Bool) (T b r:List UInt8):Option (Bool×Bool×List UInt8×List UInt8×List UInt8):=
 match cutE r with
 | none=>none
 | some (down,p,q)=>if q=[] then some (n1,down,T,b,p) else none
set_option maxRecDepth 100000 in theorem cut_any (s : List UInt8) (hlen : s.length ≤ 1000) (w : World) :
  Calls prog 179 #[.string ⟨s.toArray⟩] w fun e w'=>∃ (neg down:Bool) (a b p:List UInt8) (ok:Bool),e=.returned (.tuple #[.agg #[.bool neg,.bool down,.string ⟨a.toArray⟩,.string ⟨b.toArray⟩,.string ⟨p.toArray⟩],.bool ok])∧Below w.heap.size w w'∧CutOK (cutL s) neg down a b p ok:=by
 obtain⟨R,hR⟩:∃ R,R=cutL s:=⟨_,rfl⟩
 rw[← hR];have HR:=Qh hR;clear hR;obtain⟨tr,tx,hsz,hbw⟩:=box2 w #[.bool false,.bool false,.string ⟨#[]⟩,.string ⟨#[]⟩,.string ⟨#[]⟩] #[.bool false,.bool false,.string ⟨#[]⟩,.string ⟨#[]⟩,.string ⟨#[]⟩] 304 304;have TR:=Qh tr;have TX:=Qh tx;have HBW:=Qh hbw;clear tr tx hbw hsz;obtain⟨i1,hi1,hi2,hd1,hs1,hn1⟩:=cutS_drop s;obtain⟨n1,hn⟩:∃ n1,n1=(cutS s).1:=⟨_,rfl⟩
 rw[← hn]at hn1;have HD1:=Qh hd1;have HS1:=Qh hs1;have HN1:=Qh hn1;have HNN:=Qh hn;clear hd1 hs1 hn1 hn;go_enter func179,ntmps179
 go_upto_region 3 with fail
 generalize (w.alloc (.cells #[.bool false,.bool false,.string ⟨#[]⟩,.string ⟨#[]⟩,.string ⟨#[]⟩] 304)).alloc (.cells #[.bool false,.bool false,.string ⟨#[]⟩,.string ⟨#[]⟩,.string ⟨#[]⟩] 304)=W at *;obtain⟨x0,x1,x2,x3,x4,x5,x6,x7,x8,x9⟩:=TX.out.five;have hc:(s.length=0∧i1=0∧n1=false)∨(∃ h:0 < s.length,(s[0].toNat=43∧i1=1∧n1=false)∨(s[0].toNat=45∧i1=1∧n1=true)∨(s[0].toNat≠43∧s[0].toNat≠45∧i1=0∧n1=false)):=by
  have h1:=HS1.out;have h2:=HN1.out;cases s with
  | nil=>exact .inl ⟨rfl,by simpa using hi2,h2⟩
  | cons c t=>
   right
   refine⟨by simp,?_⟩;have h3:=h1 (by simp);clear h1;simp only[List.getElem_cons_zero]at h3 h2 ⊢;by_cases hs:isSg c=true
   ·rw[if_pos hs]at h3 h2;unfold isSg at hs;rw[Bool.or_eq_true,beq_iff_eq,beq_iff_eq]at hs;rcases hs with rfl|rfl
    ·exact .inl ⟨rfl,h3,h2⟩
    ·exact .inr (.inl ⟨rfl,h3,h2⟩)
   ·rw[if_neg hs]at h3 h2;refine .inr (.inr ⟨fun h=>hs ?_,fun h=>hs ?_,h3,h2⟩)
    ·rw[show c=43 from UInt8.toNat_inj.1 h];rfl
    ·rw[show c=45 from UInt8.toNat_inj.1 h];rfl
 clear HS1 HN1;go_cut [22] (fun x ws=>x=.bool (decide (i1=1))∧ws=W)
 case first=>
  rcases hc with ⟨q1,rfl,rfl⟩|⟨h0',hcc⟩
  ·have h0:¬ (0:Int) < s.length:=(by omega);go_wp2_with fail;go_meet
   case rel=>exact⟨rfl,rfl⟩
  ·have h0:(0:Int) < s.length:=(by omega);have hget:(⟨s.toArray⟩:ByteArray)[0]'h0' = s[0]:=rfl;generalize s[0]=c at *;rcases hcc with ⟨q1,rfl,rfl⟩|⟨q1,rfl,rfl⟩|⟨q1,q2,rfl,rfl⟩
   ·have q:(c.toNat:Int)=43:=(by omega);go_wp2_with fail;go_meet
    case rel=>exact⟨rfl,rfl⟩
   ·have q:(c.toNat:Int)=45:=(by omega);go_wp2_with fail;go_meet
    case rel=>exact⟨rfl,rfl⟩
   ·have e1:((c.toNat:Int) == 43)=false:=ne_bool (by omega);have e2:((c.toNat:Int) == 45)=false:=ne_bool (by omega);go_wp2_with fail;go_meet
    case rel=>exact⟨rfl,rfl⟩
 case rest=>
 obtain⟨rfl,rfl⟩:=hcut;go_upto_if 22 with (fail)
 go_cut [5] (fun x ws=>x=.int .i64 (i1:Nat)∧Blk ws w.heap.size #[.bool false,.bool false,.string ⟨#[]⟩,.string ⟨#[]⟩,.string ⟨#[]⟩]∧Blk ws (w.heap.size+1) #[.bool n1,.bool false,.string ⟨#[]⟩,.string ⟨#[]⟩,.string ⟨#[]⟩]∧Below w.heap.size w ws)
 case first=>
  rcases hc with ⟨q1,rfl,rfl⟩|⟨h0',hcc⟩
  ·have h0:¬ (0:Int) < s.length:=(by omega);go_wp2_with fail;go_meet
   case rel=>exact⟨rfl,TR.out,TX.out,HBW.out⟩
  ·have h0:(0:Int) < s.length:=(by omega);have hget:(⟨s.toArray⟩:ByteArray)[0]'h0' = s[0]:=rfl;generalize s[0]=c at *;rcases hcc with ⟨q1,rfl,rfl⟩|⟨q1,rfl,rfl⟩|⟨q1,q2,rfl,rfl⟩
   ·have q:(c.toNat:Int)=43:=(by omega);go_wp2_with fail;go_meet
    case rel=>exact⟨rfl,TR.out.other (by show w.heap.size+1≠w.heap.size;omega) _,TX.out.set 0 _,HBW.out.setCell (by simp) _⟩
   ·have q:(c.toNat:Int)=45:=(by omega);go_wp2_with fail;go_meet
    case rel=>exact⟨rfl,TR.out.other (by show w.heap.size+1≠w.heap.size;omega) _,TX.out.set 0 _,HBW.out.setCell (by simp) _⟩
   ·have e1:((c.toNat:Int) == 43)=false:=ne_bool (by omega);have e2:((c.toNat:Int) == 45)=false:=ne_bool (by omega);go_wp2_with fail;go_meet
    case rel=>exact⟨rfl,TR.out,TX.out,HBW.out⟩
 case rest=>
  clear x0 x1 x2 x3 x4 x5 x6 x7 x8 x9 TR TX HBW hc;obtain⟨rfl,tr,tx,hbw⟩:=hcut;have TR:=Qh tr;have TX:=Qh tx;have HBW:=Qh hbw;obtain⟨x0,x1,x2,x3,x4,x5,x6,x7,x8,x9⟩:=tx.five;obtain⟨r0,r1,r2,r3,r4,r5,r6,r7,r8,r9⟩:=tr.five;clear tr tx hbw;have cd:=digits_any s i1 (by omega) hi2;have hsub:=sub_tw s i1 hi2;have hk1:=tw_le (s.drop i1);rw[List.length_drop]at hk1;have HR2:=Qh (show R=if tw (s.drop i1)=[] then none else match cutP (s.drop (i1+(tw (s.drop i1)).length))with
   | none=>none
   | some (b,r)=>cutT n1 (tw (s.drop i1)) b r by
   rw[HR.out,HNN.out,← List.drop_drop,← dw_drop,HD1.out];rfl)
  clear HR HD1 HNN;generalize htw:tw (s.drop i1)=T1 at *;clear htw;by_cases hT:T1=[]
  ·subst hT;have HN:=Qh (show R=none by rw[HR2.out,if_pos rfl]);have cd2:∀ w:World,Calls prog 208 #[.string ⟨s.toArray⟩,.int .i64 i1] w fun e w'=>e=.returned (.int .i64 (i1:Nat))∧w' = w:=cd
   have hsub2:(⟨s.toArray⟩:ByteArray).extract i1 i1=⟨#[]⟩:=hsub;clear HR2 cd hsub hk1;go_wp2_with fail;with_reducible refine(cd2 _).mono ?_
   rintro e w1 ⟨rfl,rfl⟩;clear cd2;go_wp2_with fail;try rw[Exit.noGoto_ret]
   exact bodyPost_ret (v:=.tuple #[.agg #[.bool false,.bool false,.string ⟨#[]⟩,.string ⟨#[]⟩,.string ⟨#[]⟩],.bool false]) (by simp[results,results179,go_sem,r0,r1,r2,r3,r4]) rfl ⟨false,false,[],[],[],false,rfl,(((((HBW.out.setCell (by simp) _).setCell (by simp) _).setCell (by simp) _).setCell (by simp) _).setCell (by simp) _).setCell (by simp) _,by rw[HN.out];rfl⟩
  ·have HR3:=Qh (show R=match cutP (s.drop (i1+T1.length))with
    | none=>none
    | some (b,r)=>cutT n1 T1 b r by rw[HR2.out,if_neg hT])
   have hTl:0 < T1.length:=by cases T1 with|nil=>exact absurd rfl hT|cons=>simp
   clear HR2 hT;obtain⟨k1,hk⟩:∃ k1,k1=i1+T1.length:=⟨_,rfl⟩
   rw[← hk]at HR3 cd hsub;have hk2:k1≤s.length:=(by omega);have hk3:i1≤k1:=(by omega);have e1:((k1:Int) == (i1:Int))=false:=ne_bool (by omega);clear hk hTl hk1;have TX1:=Qh (show Blk (wc.setCell ⟨w.heap.size+1,2,none⟩ (.string ⟨T1.toArray⟩)) (w.heap.size+1) #[.bool n1,.bool false,.string ⟨T1.toArray⟩,.string ⟨#[]⟩,.string ⟨#[]⟩]from TX.out.set 2 _);have TR1:=Qh (show Blk (wc.setCell ⟨w.heap.size+1,2,none⟩ (.string ⟨T1.toArray⟩)) w.heap.size #[.bool false,.bool false,.string ⟨#[]⟩,.string ⟨#[]⟩,.string ⟨#[]⟩]from TR.out.other (by show w.heap.size+1≠w.heap.size;omega) _);have HB1:=Qh (show Below w.heap.size w (wc.setCell ⟨w.heap.size+1,2,none⟩ (.string ⟨T1.toArray⟩))from HBW.out.setCell (by simp) _);go_wp2_with fail;with_reducible refine(cd _).mono ?_
   rintro e w1 ⟨rfl,rfl⟩;clear cd;go_upto_region 11 with fail
   generalize w1.setCell ⟨w.heap.size+1,2,none⟩ (.string ⟨T1.toArray⟩)=W1 at *;clear x0 x1 x2 x3 x4 x5 x6 x7 x8 x9 r0 r1 r2 r3 r4 r5 r6 r7 r8 r9 TR TX HBW hsub e1;obtain⟨x0,x1,x2,x3,x4,x5,x6,x7,x8,x9⟩:=TX1.out.five;obtain⟨r0,r1,r2,r3,r4,r5,r6,r7,r8,r9⟩:=TR1.out.five;have hdot:(∃ b:Bool,b=decide (∃ h:k1 < s.length,s[k1].toNat=46)):=⟨_,rfl⟩
   obtain⟨b,hb⟩:=hdot;have HBB:=Qh hb;clear hb;go_cut [52] (fun x ws=>x=.bool b∧ws=W1)
   case first=>
    by_cases h0:(k1:Int) < s.length
    ·have h0':k1 < s.length:=(by omega);have hget:(⟨s.toArray⟩:ByteArray)[k1]'h0' = s[k1]:=rfl;by_cases h46:s[k1].toNat=46
     ·have HB0:=Qh (show b=true by rw[HBB.out];exact decide_eq_true ⟨h0',h46⟩);generalize s[k1]=c at *;have q:(c.toNat:Int)=46:=(by omega);clear HBB h46;go_wp2_with fail;go_meet
      case rel=>exact⟨by rw[HB0.out],rfl⟩
     ·have HB0:=Qh (show b=false by rw[HBB.out];exact decide_eq_false (fun⟨_,h⟩=>h46 h));generalize s[k1]=c at *;have q:((c.toNat:Int) == 46)=false:=ne_bool (by omega);clear HBB h46;go_wp2_with fail;go_meet
      case rel=>exact⟨by rw[HB0.out],rfl⟩
    ·have HB0:=Qh (show b=false by rw[HBB.out];exact decide_eq_false (fun⟨h,_⟩=>h0 (by omega)));clear HBB;go_wp2_with fail;go_meet
     case rel=>exact⟨by rw[HB0.out],rfl⟩
   case rest=>
    obtain⟨rfl,rfl⟩:=hcut;go_upto_if 52 with (fail)
    --P2
    go_cut [5] (fun x ws=>∃ (bk:List UInt8) (i2:Nat),x=.int .i64 (i2:Nat)∧i2≤s.length∧R=cutT n1 T1 bk (s.drop i2)∧Blk ws (w.heap.size+1) #[.bool n1,.bool false,.string ⟨T1.toArray⟩,.string ⟨bk.toArray⟩,.string ⟨#[]⟩]∧Blk ws w.heap.size #[.bool false,.bool false,.string ⟨#[]⟩,.string ⟨#[]⟩,.string ⟨#[]⟩]∧Below w.heap.size w ws)
    case first=>
     cases b
     ·have HN:=Qh (show R=cutT n1 T1 [] (s.drop k1)by
       rw[HR3.out];rcases Nat.lt_or_ge k1 s.length with h|h
       ·rw[List.drop_eq_getElem_cons h];have h2:s[k1]≠46:=fun e=>by
         have h3:=of_decide_eq_false HBB.out.symm;exact h3 ⟨h,by rw[e];rfl⟩
        unfold cutP;simp only[h2,if_false]
       ·rw[List.drop_eq_nil_of_le h];rfl)
      clear HR3 HBB;go_wp2_with fail;go_meet
      case rel=>exact⟨[],k1,rfl,hk2,HN.out,TX1.out,TR1.out,HB1.out⟩
     ·obtain⟨h0',h46⟩:=of_decide_eq_true HBB.out.symm;have HD:=Qh (show s.drop k1=46::s.drop (k1+1)by rw[List.drop_eq_getElem_cons h0',show s[k1]=46 from UInt8.toNat_inj.1 h46]);obtain⟨k',hk'⟩:∃ k',k' = k1+1:=⟨_,rfl⟩
      have hki:(k1:Int)+1=(k':Int):=(by omega);have hk'2:k'≤s.length:=(by omega);have cd:=digits_any s k' (by omega) hk'2;have hsub:=sub_tw s k' hk'2;have hkl:=tw_le (s.drop k');rw[List.length_drop]at hkl;have HR4:=Qh (show R=if tw (s.drop k')=[] then none else cutT n1 T1 (tw (s.drop k')) (s.drop (k' + (tw (s.drop k')).length))by
       rw[HR3.out,HD.out,← hk',← List.drop_drop,← dw_drop];unfold cutP;simp only[if_true];by_cases h:tw (s.drop k')=[]
       ·rw[if_pos h,if_pos h]
       ·rw[if_neg h,if_neg h])
      clear HR3 HBB HD hk' h46 h0';generalize htw:tw (s.drop k')=T2 at *;clear htw;by_cases hT:T2=[]
      ·subst hT;have HN:=Qh (show R=none by rw[HR4.out,if_pos rfl]);have cd2:∀ w:World,Calls prog 208 #[.string ⟨s.toArray⟩,.int .i64 k'] w fun e w'=>e=.returned (.int .i64 (k':Nat))∧w' = w:=cd
       have hsub2:(⟨s.toArray⟩:ByteArray).extract k' k' = ⟨#[]⟩:=hsub;clear HR4 cd hsub hkl;go_wp2_with fail;with_reducible refine(cd2 _).mono ?_
       rintro e w2 ⟨rfl,rfl⟩;clear cd2;go_wp2_with fail;try rw[Exit.noGoto_ret]
       exact bodyPost_ret (v:=.tuple #[.agg #[.bool false,.bool false,.string ⟨#[]⟩,.string ⟨#[]⟩,.string ⟨#[]⟩],.bool false]) (by simp[results,results179,go_sem,r0,r1,r2,r3,r4]) rfl ⟨false,false,[],[],[],false,rfl,((((((HB1.out.setCell (by simp) _).setCell (by simp) _).setCell (by simp) _).setCell (by simp) _).setCell (by simp) _).setCell (by simp) _),by rw[HN.out];rfl⟩
      ·have HN:=Qh (show R=cutT n1 T1 T2 (s.drop (k' + T2.length))by rw[HR4.out,if_neg hT]);have hTl:0 < T2.length:=by cases T2 with|nil=>exact absurd rfl hT|cons=>simp
       clear HR4 hT;obtain⟨k2,hk⟩:∃ k2,k2=k' + T2.length:=⟨_,rfl⟩
       rw[← hk]at HN cd hsub;have hk4:k2≤s.length:=(by omega);have hk5:k'≤k2:=(by omega);have e1:((k2:Int) == (k':Int))=false:=ne_bool (by omega);clear hk hTl hkl;go_wp2_with fail;with_reducible refine(cd _).mono ?_
       rintro e w2 ⟨rfl,rfl⟩;clear cd;go_wp2_with fail;go_meet
       case rel=>exact⟨T2,k2,rfl,hk4,HN.out,TX1.out.set 3 _,TR1.out.other (by show w.heap.size+1≠w.heap.size;omega) _,HB1.out.setCell (by simp) _⟩
    case rest=>
     clear x0 x1 x2 x3 x4 x5 x6 x7 x8 x9 r0 r1 r2 r3 r4 r5 r6 r7 r8 r9 TX1 TR1 HB1 HR3 HBB;obtain⟨bk,i2,rfl,hi2,hr,tx,tr,hb⟩:=hcut;obtain⟨W3,hW3⟩:∃ x,x=wc:=⟨_,rfl⟩
     subst hW3;have HR5:=Qh hr;have TX:=Qh tx;have TR:=Qh tr;have HB:=Qh hb;obtain⟨x0,x1,x2,x3,x4,x5,x6,x7,x8,x9⟩:=tx.five;obtain⟨r0,r1,r2,r3,r4,r5,r6,r7,r8,r9⟩:=tr.five;clear hr tx tr hb;obtain⟨b,hb⟩:(∃ b:Bool,b=decide (∃ h:i2 < s.length,s[i2].toNat=101∨s[i2].toNat=69)):=⟨_,rfl⟩
     have HBB:=Qh hb;clear hb;go_upto_region 17 with fail
     go_cut [84] (fun x ws=>x=.bool b∧ws=W3)
     case first=>
      by_cases h0:(i2:Int) < s.length
      ·have h0':i2 < s.length:=(by omega);have hget:(⟨s.toArray⟩:ByteArray)[i2]'h0' = s[i2]:=rfl;by_cases h101:s[i2].toNat=101
       ·have HB0:=Qh (show b=true by rw[HBB.out];exact decide_eq_true ⟨h0',.inl h101⟩);generalize s[i2]=c at *;have q:(c.toNat:Int)=101:=(by omega);clear HBB h101;go_wp2_with fail;go_meet
        case rel=>exact⟨by rw[HB0.out],rfl⟩
       by_cases h69:s[i2].toNat=69
       ·have HB0:=Qh (show b=true by rw[HBB.out];exact decide_eq_true ⟨h0',.inr h69⟩);generalize s[i2]=c at *;have q:(c.toNat:Int)=69:=(by omega);clear HBB h101 h69;go_wp2_with fail;go_meet
        case rel=>exact⟨by rw[HB0.out],rfl⟩
       have HB0:=Qh (show b=false by rw[HBB.out];exact decide_eq_false (fun⟨_,h⟩=>h.elim h101 h69));generalize s[i2]=c at *;have q1:((c.toNat:Int) == 101)=false:=ne_bool (by omega);have q2:((c.toNat:Int) == 69)=false:=ne_bool (by omega);clear HBB h101 h69;go_wp2_with fail;go_meet
       case rel=>exact⟨by rw[HB0.out],rfl⟩
      ·have HB0:=Qh (show b=false by rw[HBB.out];exact decide_eq_false (fun⟨h,_⟩=>h0 (by omega)));clear HBB;go_wp2_with fail;go_meet
       case rel=>exact⟨by rw[HB0.out],rfl⟩
     case rest=>
      obtain⟨rfl,rfl⟩:=hcut;go_upto_if 84 with (fail)
      --P3
      go_cut [5] (fun x ws=>∃ (down:Bool) (p:List UInt8) (i4:Nat),x=.int .i64 (i4:Nat)∧i4≤s.length∧R=(if s.drop i4=[] then some (n1,down,T1,bk,p) else none)∧Blk ws (w.heap.size+1) #[.bool n1,.bool down,.string ⟨T1.toArray⟩,.string ⟨bk.toArray⟩,.string ⟨p.toArray⟩]∧Blk ws w.heap.size #[.bool false,.bool false,.string ⟨#[]⟩,.string ⟨#[]⟩,.string ⟨#[]⟩]∧Below w.heap.size w ws)
      case first=>
       cases b
       ·have HN:=Qh (show R=if s.drop i2=[] then some (n1,false,T1,bk,[]) else none by
         rw[HR5.out];unfold cutT;rcases Nat.lt_or_ge i2 s.length with h|h
         ·rw[List.drop_eq_getElem_cons h];have h3:=of_decide_eq_false HBB.out.symm;have h2:isEe s[i2]=false:=by
           rw[Bool.eq_false_iff];intro e;unfold isEe at e;rw[Bool.or_eq_true,beq_iff_eq,beq_iff_eq]at e;rcases e with e|e
           ·exact h3 ⟨h,.inl (by rw[e];rfl)⟩
           ·exact h3 ⟨h,.inr (by rw[e];rfl)⟩
          unfold cutE;simp[h2]
         ·rw[List.drop_eq_nil_of_le h];rfl)
        clear HR5 HBB;go_wp2_with fail;go_meet
        case rel=>exact⟨false,[],i2,rfl,hi2,HN.out,TX.out,TR.out,HB.out⟩
       ·obtain⟨h0',hee⟩:=of_decide_eq_true HBB.out.symm;have heb:isEe s[i2]=true:=by
         unfold isEe;rw[Bool.or_eq_true,beq_iff_eq,beq_iff_eq];rcases hee with e|e
         ·exact .inl (UInt8.toNat_inj.1 e)
         ·exact .inr (UInt8.toNat_inj.1 e)
        obtain⟨k3,hk3'⟩:∃ k3,k3=i2+1:=⟨_,rfl⟩
        have hki:(i2:Int)+1=(k3:Int):=(by omega);have hk32:k3≤s.length:=(by omega);obtain⟨j,n,sg,hn,hj1,hj2,hjd,hc⟩:=sign_cases s k3 hk32;have HR6:=Qh (show R=if tw (s.drop j)=[] then none else if s.drop (j+(tw (s.drop j)).length)=[] then some (n1,n,T1,bk,tw (s.drop j)) else none by
         rw[HR5.out,List.drop_eq_getElem_cons h0',← hk3',hn,← List.drop_drop,← dw_drop,hjd];unfold cutT cutE;simp only[heb,if_true];by_cases h:tw (cutS (s.drop k3)).2=[]
         ·rw[if_pos h,if_pos h]
         ·rw[if_neg h,if_neg h])
        clear HR5 HBB hee heb hk3' hn hjd h0';go_upto_region 19 with fail
        go_cut [102] (fun x ws=>x=.bool sg∧ws=wc)
        case first=>
         rcases hc with ⟨q1,hj,rfl,rfl⟩|⟨h0',hcc⟩
         ·have h0:¬ (k3:Int) < s.length:=(by omega);have HJ:=Qh hj;clear q1 hj;go_wp2_with fail;go_meet
          case rel=>exact⟨rfl,rfl⟩
         ·have h0:(k3:Int) < s.length:=(by omega);have hget:(⟨s.toArray⟩:ByteArray)[k3]'h0' = s[k3]:=rfl;generalize s[k3]=c at *;rcases hcc with ⟨q1,hj,rfl,rfl⟩|⟨q1,hj,rfl,rfl⟩|⟨q1,q2,hj,rfl,rfl⟩
          ·have q:(c.toNat:Int)=43:=(by omega);have HJ:=Qh hj;clear q1 hj;go_wp2_with fail;go_meet
           case rel=>exact⟨rfl,rfl⟩
          ·have q:(c.toNat:Int)=45:=(by omega);have HJ:=Qh hj;clear q1 hj;go_wp2_with fail;go_meet
           case rel=>exact⟨rfl,rfl⟩
          ·have e1:((c.toNat:Int) == 43)=false:=ne_bool (by omega);have e2:((c.toNat:Int) == 45)=false:=ne_bool (by omega);have HJ:=Qh hj;clear q1 q2 hj;go_wp2_with fail;go_meet
           case rel=>exact⟨rfl,rfl⟩
        case rest=>
         obtain⟨rfl,rfl⟩:=hcut;go_upto_if 102 with (fail)
         go_cut [5] (fun x ws=>x=.int .i64 (j:Nat)∧Blk ws (w.heap.size+1) #[.bool n1,.bool n,.string ⟨T1.toArray⟩,.string ⟨bk.toArray⟩,.string ⟨#[]⟩]∧Blk ws w.heap.size #[.bool false,.bool false,.string ⟨#[]⟩,.string ⟨#[]⟩,.string ⟨#[]⟩]∧Below w.heap.size w ws)
         case first=>
          rcases hc with ⟨q1,hj,rfl,rfl⟩|⟨h0',hcc⟩
          ·have h0:¬ (k3:Int) < s.length:=(by omega);have HJ:=Qh hj;clear q1 hj;go_wp2_with fail;go_meet
           case rel=>exact⟨by rw[HJ.out],TX.out,TR.out,HB.out⟩
          ·have h0:(k3:Int) < s.length:=(by omega);have hget:(⟨s.toArray⟩:ByteArray)[k3]'h0' = s[k3]:=rfl;generalize s[k3]=c at *;rcases hcc with ⟨q1,hj,rfl,rfl⟩|⟨q1,hj,rfl,rfl⟩|⟨q1,q2,hj,rfl,rfl⟩
           ·have q:(c.toNat:Int)=43:=(by omega);have HJ:=Qh hj;clear q1 hj;go_wp2_with fail;go_meet
            case rel=>exact⟨by rw[HJ.out];first|rfl|go_num,TX.out.set 1 _,TR.out.other (by show w.heap.size+1≠w.heap.size;omega) _,HB.out.setCell (by simp) _⟩
           ·have q:(c.toNat:Int)=45:=(by omega);have HJ:=Qh hj;clear q1 hj;go_wp2_with fail;go_meet
            case rel=>exact⟨by rw[HJ.out];first|rfl|go_num,TX.out.set 1 _,TR.out.other (by show w.heap.size+1≠w.heap.size;omega) _,HB.out.setCell (by simp) _⟩
           ·have e1:((c.toNat:Int) == 43)=false:=ne_bool (by omega);have e2:((c.toNat:Int) == 45)=false:=ne_bool (by omega);have HJ:=Qh hj;clear q1 q2 hj;go_wp2_with fail;go_meet
            case rel=>exact⟨by rw[HJ.out],TX.out,TR.out,HB.out⟩
         case rest=>
          clear x0 x1 x2 x3 x4 x5 x6 x7 x8 x9 r0 r1 r2 r3 r4 r5 r6 r7 r8 r9 TX TR HB hc;obtain⟨rfl,tx,tr,hb⟩:=hcut;have TX:=Qh tx;have TR:=Qh tr;have HB:=Qh hb;obtain⟨x0,x1,x2,x3,x4,x5,x6,x7,x8,x9⟩:=tx.five;obtain⟨r0,r1,r2,r3,r4,r5,r6,r7,r8,r9⟩:=tr.five;clear tx tr hb;have cd:=digits_any s j (by omega) hj2;have hsub:=sub_tw s j hj2;have hkl:=tw_le (s.drop j);rw[List.length_drop]at hkl;generalize htw:tw (s.drop j)=T3 at *;clear htw;by_cases hT:T3=[]
          ·subst hT;have HN:=Qh (show R=none by rw[HR6.out,if_pos rfl]);have cd2:∀ w:World,Calls prog 208 #[.string ⟨s.toArray⟩,.int .i64 j] w fun e w'=>e=.returned (.int .i64 (j:Nat))∧w' = w:=cd
           have hsub2:(⟨s.toArray⟩:ByteArray).extract j j=⟨#[]⟩:=hsub;clear HR6 cd hsub hkl;go_wp2_with fail;with_reducible refine(cd2 _).mono ?_
           rintro e w2 ⟨rfl,rfl⟩;clear cd2;go_wp2_with fail;try rw[Exit.noGoto_ret]
           exact bodyPost_ret (v:=.tuple #[.agg #[.bool false,.bool false,.string ⟨#[]⟩,.string ⟨#[]⟩,.string ⟨#[]⟩],.bool false]) (by simp[results,results179,go_sem,r0,r1,r2,r3,r4]) rfl ⟨false,false,[],[],[],false,rfl,((((((HB.out.setCell (by simp) _).setCell (by simp) _).setCell (by simp) _).setCell (by simp) _).setCell (by simp) _).setCell (by simp) _),by rw[HN.out];rfl⟩
          ·have HN:=Qh (show R=if s.drop (j+T3.length)=[] then some (n1,n,T1,bk,T3) else none by rw[HR6.out,if_neg hT]);have hTl:0 < T3.length:=by cases T3 with|nil=>exact absurd rfl hT|cons=>simp
           clear HR6 hT;obtain⟨k4,hk⟩:∃ k4,k4=j+T3.length:=⟨_,rfl⟩
           rw[← hk]at HN cd hsub;have hk4:k4≤s.length:=(by omega);have hk5:j≤k4:=(by omega);have e1:((k4:Int) == (j:Int))=false:=ne_bool (by omega);clear hk hTl hkl;go_wp2_with fail;with_reducible refine(cd _).mono ?_
           rintro e w2 ⟨rfl,rfl⟩;clear cd;go_wp2_with fail;go_meet
           case rel=>exact⟨n,T3,k4,rfl,hk4,HN.out,TX.out.set 4 _,TR.out.other (by show w.heap.size+1≠w.heap.size;omega) _,HB.out.setCell (by simp) _⟩
      case rest=>
       clear x0 x1 x2 x3 x4 x5 x6 x7 x8 x9 r0 r1 r2 r3 r4 r5 r6 r7 r8 r9 TX TR HB HR5 HBB;obtain⟨down,p,i4,rfl,hi4,hr,tx,tr,hb⟩:=hcut;have HR7:=Qh hr;have TX:=Qh tx;have TR:=Qh tr;have HB:=Qh hb;obtain⟨x0,x1,x2,x3,x4,x5,x6,x7,x8,x9⟩:=tx.five;obtain⟨r0,r1,r2,r3,r4,r5,r6,r7,r8,r9⟩:=tr.five;clear tx tr hb hr;by_cases he:i4=s.length
       ·have e1:((i4:Int) == (s.length:Int))=true:=(by rw[beq_iff_eq];omega);have HN:=Qh (show R=some (n1,down,T1,bk,p)by rw[HR7.out,he,List.drop_length,if_pos rfl]);clear HR7 he;go_wp2_with fail;try rw[Exit.noGoto_ret]
        exact bodyPost_ret (v:=.tuple #[.agg #[.bool n1,.bool down,.string ⟨T1.toArray⟩,.string ⟨bk.toArray⟩,.string ⟨p.toArray⟩],.bool true]) (by simp[results,results179,go_sem,r0,r1,r2,r3,r4]) rfl ⟨n1,down,T1,bk,p,true,rfl,(((((HB.out.setCell (by simp) _).setCell (by simp) _).setCell (by simp) _).setCell (by simp) _).setCell (by simp) _),by rw[HN.out];exact⟨rfl,rfl⟩⟩
       ·have e1:((i4:Int) == (s.length:Int))=false:=ne_bool (by omega);have HN:=Qh (show R=none by
         rw[HR7.out,if_neg];intro h;have:=congrArg List.length h;rw[List.length_drop]at this;simp at this;omega)
        clear HR7 he;go_wp2_with fail;try rw[Exit.noGoto_ret]
        exact bodyPost_ret (v:=.tuple #[.agg #[.bool n1,.bool down,.string ⟨T1.toArray⟩,.string ⟨bk.toArray⟩,.string ⟨p.toArray⟩],.bool false]) (by simp[results,results179,go_sem,r0,r1,r2,r3,r4]) rfl ⟨n1,down,T1,bk,p,false,rfl,(((((HB.out.setCell (by simp) _).setCell (by simp) _).setCell (by simp) _).setCell (by simp) _).setCell (by simp) _),by rw[HN.out];rfl⟩
theorem over_hi {neg:Bool} {n:Nat} {e:Int} (hn:0 < n) (he:100 < e):parseF neg n e=none:=by
 unfold parseF;rw[show(-e).toNat=0 by omega,Nat.pow_zero,frac_over_num];have h1:10 ^ 20≤10 ^ e.toNat:=Nat.pow_le_pow_right (by decide) (by omega);have h2:10 ^ e.toNat≤n*10 ^ e.toNat:=Nat.le_mul_of_pos_left _ hn;exact Nat.lt_of_lt_of_le (by decide) (Nat.le_trans h1 h2)
theorem over_lo {neg:Bool} {n:Nat} {e:Int} (hn:0 < n) (hn2:n < 10 ^ 96) (he:e < -200):parseF neg n e=none:=by
 obtain⟨v,z,h1,h2,h3⟩:=strip_tens n hn;have hz:z < 96:=by
  apply (Nat.pow_lt_pow_iff_right (by decide:1 < 10)).1;refine Nat.lt_of_le_of_lt ?_ hn2;rw[h1];exact Nat.le_mul_of_pos_left _ h3
 rw[h1,parseF_shift];unfold parseF;rw[show(e+z).toNat=0 by omega,Nat.pow_zero,Nat.mul_one,frac_over_den h2 (by omega)]
theorem pow300 {j:Nat} (h:j≤300):(digs (10 ^ j)).length≤32:=by
 refine(digs_len _ 32).2 (Nat.lt_of_le_of_lt (Nat.pow_le_pow_right (by decide) h) ?_);decide +kernel
set_option maxRecDepth 100000 in theorem ten_big (k : Nat) (hk : k ≤ 300) (w : World) :
  Calls prog 185 #[.int .i64 k] w (RetNat w (10 ^ k)):=by
 have cf1:∀ w,Calls prog 182 #[.int .u64 1] w (RetNat w 1):=fun w=>from_any 1 (by decide) w
 have cf10:∀ w,Calls prog 182 #[.int .u64 10] w (RetNat w 10):=fun w=>from_any 10 (by decide) w
 go_enter func185,ntmps185
 go_wp2_with fail;with_reducible refine(cf1 _).mono ?_
 rintro e w1 ⟨v1,rfl,hn1,hf1,hb1⟩;obtain⟨a1,c1,rfl,hs1⟩:=hn1;clear cf1;go_wp2_with fail;go_loopw [3,4] (fun v i wr=>∃ j:Nat,i=.int .i64 (j:Nat)∧j≤k∧NatV wr v (10 ^ j)∧FreshV w.heap.size v∧Below w.heap.size w wr) (fun _ i _=>k - (intOf i).toNat)
 case atStart=>exact⟨0,rfl,Nat.zero_le _,⟨a1,c1,rfl,hs1⟩,hf1,hb1⟩
 case round=>
  clear hs1 hf1 hb1;obtain⟨j,rfl,hj,⟨a,c,rfl,hs⟩,hf,hb⟩:=hrel;have HF:=Qh hf;clear hf;by_cases hlt:(j:Int) < k
  ·have hl:=pow300 (show j≤300 by omega);go_wp2_with fail;with_reducible refine(cf10 _).mono ?_
   rintro e w2 ⟨_,rfl,⟨a2,c2,rfl,hs2⟩,hf2,hb2⟩;have cx:=times_any (10 ^ j) 10 a a2 c c2 (by omega) (by have:=digs1 (n:=10) (by decide);omega) w2 (hs.keep hb2 lrf) hs2;have HB:=Qh (bstep hb hb2 lrf);clear hs hs2 hf2 hb2 hb hl;go_wp2_with fail;(with_reducible refine cx.mono ?_);rintro e w3 ⟨v3,rfl,hn3,hf3,hb3⟩;have HN:=Qh hn3;have HF3:=Qh (fresh_low hf3 HB.out.size);have HB3:=Qh (bstep HB.out hb3 lrf);clear hn3 hf3 hb3 cx;go_wp2_with fail;go_roundw;case rel=>exact⟨j+1,by go_num,by omega,by rw[Nat.pow_succ];exact HN.out,HF3.out,HB3.out⟩
   case measure=>simp[intOf];omega
  ·obtain rfl:j=k:=by omega
   go_wp2_with fail;go_ret;exact⟨_,rfl,⟨a,c,rfl,hs⟩,HF.out,hb⟩
end Go.Proofs.YtlacjhjckkablaaGreatDoor
