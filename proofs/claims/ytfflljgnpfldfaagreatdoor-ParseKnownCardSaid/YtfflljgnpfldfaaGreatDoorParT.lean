/-
  The reference's ten, of greater numbers.
-/
import Derived.Test.YtfflljgnpfldfaaGreatDoorParX
set_option linter.all false
set_option maxHeartbeats 128000000
set_option maxRecDepth 100000
namespace Go.Proofs.YtfflljgnpfldfaaGreatDoor
open Go.Proofs.Tryz
open Go.RowKit
theorem apa (c:UInt8) (w:World) :
  Calls prog 259 #[.int .u8 (c.toNat:Nat)] w fun e w'=>e=.returned (.bool (fq c))∧w' = w:=by
 have HI:=Qh (nj c);obtain⟨b,hb⟩:∃ b,b=fq c:=⟨_,rfl⟩
 rw[← hb];have HB:=Qh hb;clear hb;generalize hm:c.toNat=m at *;by_cases h1:(48:Int)≤m
 ·by_cases h2:(m:Int)≤57
  ·have HT:=Qh (show b=true by rw[HB.o];exact HI.o.2 ⟨ae,ae⟩);clear HI HB hm;exact UD
  ·have HT:=Qh (show b=false by rw[HB.o,rS];intro h;have:=HI.o.1 h;omega);clear HI HB hm;exact UD
 ·have HT:=Qh (show b=false by rw[HB.o,rS];intro h;have:=HI.o.1 h;omega);clear HI HB hm;exact UD
theorem XQ (s:List UInt8) (i:Nat) (hs:s.length≤1000000) (hi:i≤s.length) (w:World) :
  Calls prog 233 #[.string ⟨s.toArray⟩,.int .i64 i] w fun e w'=>e=.returned (.int .i64 (i+(tw (s.drop i)).length:Nat))∧w' = w:=by
 obtain⟨T,hT⟩:∃ T,T=i+(tw (s.drop i)).length:=⟨_,rfl⟩
 rw[← hT];have HT:=Qh hT;clear hT;go_enter func233,ntmps233
 go_wp2_with fail;go_loopw [1] (fun x wr=>∃ k:Nat,x=.int .i64 (k:Nat)∧k≤s.length∧T=k+(tw (s.drop k)).length∧wr=w) (fun x _=>s.length - (intOf x).toNat)
 case atStart=>exact⟨i,rfl,hi,HT.o,rfl⟩
 case round=>
  obtain⟨k,rfl,hk,jz,rfl⟩:=hrel;by_cases hlt:(k:Int) < s.length
  ·refine OI ?_;intro a8 fZ hd;rw[hd]at jz;generalize s[k]=c at *;have cd:=apa c;cases hc:fq c
   ·clear hd HT;exact aiI
   ·rw[sx hc]at jz;have kY:=Qh (show T=k+1+(tw (s.drop (k+1))).length by rw[jz,dz];omega);rw[hc]at cd;clear hd jz hc;go_wp2_with fail;refine aI (cd _) ?_
    rintro e w1 ⟨rfl,rfl⟩;clear cd;go_wp2_with fail;go_roundw;case rel=>exact⟨k+1,dV,ae,kY.o,trivial⟩
    case measure=>exact nC
  ·have kY:=Qh (show T=k by rw[jz,show k=s.length by omega,qZ];rfl);clear jz HT;exact ab4
theorem apb (l:List UInt8) (hl:l.length≤1000000) (hd:px l) (w:World) :
  Calls prog 207 #[.string ⟨l.toArray⟩] w fun e w'=>e=.returned (.int .i64 (sF l:Nat))∧w' = w:=by
 obtain⟨T,hT⟩:∃ T,T=sF l:=⟨_,rfl⟩
 rw[← hT];have HT:=Qh hT;have HD:=Qh hd;clear hT hd;go_enter func207,ntmps207
 go_wp2_with fail;go_loopw [3,4] (fun n x wr=>∃ k p:Nat,n=.int .i64 (p:Nat)∧x=.int .i64 (k:Nat)∧k≤l.length∧p≤1000∧p=sF (l.take k)∧wr=w) (fun _ x _=>l.length - (intOf x).toNat)
 case atStart=>exact⟨0,0,rfl,rfl,bV _,ah,rfl,rfl⟩
 case round=>
  obtain⟨k,p,rfl,rfl,hk,hp,Sb,rfl⟩:=hrel;by_cases hlt:(k:Int) < l.length
  ·have a8:k < l.length:=ae;have fZ:(⟨l.toArray⟩:ByteArray)[k]'a8 = l[k]:=rfl;have hc:=(nj l[k]).1 (HD.o _ (gU a8));have Np:sF (l.take (k+1))=min (10*p+(l[k].toNat - 48)) 1000:=by
    rw[Bo a8,Sb];unfold sF Ek;rw[List.foldl_append];rfl
   have El:=Qh Np;clear Np Sb;generalize l[k]=c at *;have h1:(48:Int)≤c.toNat:=ae;have h2:(c.toNat:Int)≤57:=ae;go_wp2_with fail;go_roundw;case rel=>exact⟨k+1,min (10*p+(c.toNat - 48)) 1000,(by show Value.int _ _=Value.int _ _;congr 1;omega),dV,ae,ae,El.o.symm,trivial⟩
   case measure=>exact nC
  ·have kY:=Qh (show T=p by rw[HT.o,Sb,show k=l.length by omega,vN]);clear Sb HT;exact ab4
theorem ao2 (L:List UInt8) (i j:Nat) (hj:j≤L.length):(⟨L.toArray⟩:ByteArray).extract i j=⟨((L.drop i).take (j - i)).toArray⟩:=by
 have h:∀ (a b:ByteArray),a.data=b.data→a=b:=fun a b e=>by cases a;cases b;simp at e;rw[e]
 refine h _ _ (Array.ext' ?_);rw[Go.Lib.extract_data]
theorem XO (l:List UInt8):dw l=l.drop (tw l).length:=by
 have h:=jA (List.drop (tw l).length) (show tw l++dw l=l from List.takeWhile_append_dropWhile)
 rwa [List.drop_left' rfl]at h
theorem ao3 (l:List UInt8):l.take (tw l).length=tw l:=by
 have h:=jA (List.take (tw l).length) (show tw l++dw l=l from List.takeWhile_append_dropWhile);rw[List.take_left' rfl]at h;exact h.symm
theorem R1 (l:List UInt8):(tw l).length≤l.length:=by have:=JU l;omega
theorem XP (s:List UInt8) (i:Nat) (hi:i≤s.length):(⟨s.toArray⟩:ByteArray).extract i (i+(tw (s.drop i)).length)=⟨(tw (s.drop i)).toArray⟩:=by
 refine qW (R1 (s.drop i)) ?_;intro h;rw[ao2 s i _ ae,Nat.add_sub_cancel_left,ao3]
theorem ao4 (s:List UInt8):∃ i,i≤1∧i≤s.length∧s.drop i=(eF s).2∧(∀ (h:0 < s.length),i=if eW s[0]=true then 1 else 0)∧(eF s).1=(match s with | []=>false|c::_=>if eW c=true then c == 45 else false):=by
 cases s with
 | nil=>exact⟨0,ah,aB,rfl,fun h=>absurd h aB,rfl⟩
 | cons c t=>
  cases hs:eW c
  ·exact⟨0,ah,aB,by rw[Gu hs];rfl,fun _=>by simp[hs],by rw[Gu hs];simp[hs]⟩
  ·exact⟨1,ah,aB,by rw[JV hs];rfl,fun _=>by simp[hs],by rw[JV hs];simp[hs]⟩
def ao5 (R:Option (Bool×Bool×List UInt8×List UInt8×List UInt8)) (neg down:Bool) (a b p:List UInt8) (ok:Bool):Prop:=
 match R with
 | none=>ok=false
 | some x=>ok=true∧x=(neg,down,a,b,p)
theorem ai.five {w:World} {k:Nat} {a b c d e:Value} (h:ai w k #[a,b,c,d,e]):w.cell? ⟨k,0,none⟩=some a∧w.cell? ⟨k,1,none⟩=some b∧w.cell? ⟨k,2,none⟩=some c∧w.cell? ⟨k,3,none⟩=some d∧w.cell? ⟨k,4,none⟩=some e∧w.frozen? ⟨k,0,none⟩=false∧w.frozen? ⟨k,1,none⟩=false∧w.frozen? ⟨k,2,none⟩=false∧w.frozen? ⟨k,3,none⟩=false∧w.frozen? ⟨k,4,none⟩=false:=
 ⟨h.cell 0 a rfl,h.cell 1 b rfl,h.cell 2 c rfl,h.cell 3 d rfl,h.cell 4 e rfl,h.free 0,h.free 1,h.free 2,h.free 3,h.free 4⟩
theorem ao6 (s:List UInt8) (i:Nat) (hi:i≤s.length):∃ (j:Nat) (n sg:Bool),n=(eF (s.drop i)).1∧i≤j∧j≤s.length∧s.drop j=(eF (s.drop i)).2 ∧
  ((i=s.length∧j=i∧n=false∧sg=false)∨∃ h:i < s.length,(s[i].toNat=43∧j=i+1∧n=false∧sg=true)∨(s[i].toNat=45∧j=i+1∧n=true∧sg=true)∨(s[i].toNat≠43∧s[i].toNat≠45∧j=i∧n=false∧sg=false)):=by
 rcases lI i s.length with h|h
 ·have hd:=jq h;by_cases hs:eW s[i]=true
  ·refine⟨i+1,s[i] == 45,true,by rw[hd,JV hs],ae,ae,by rw[hd,JV hs],.inr ⟨h,?_⟩⟩;unfold eW at hs;rw[nJ,dZ,dZ]at hs;rcases hs with hs|hs
   ·exact .inl ⟨by rw[hs];rfl,rfl,by rw[hs];rfl,rfl⟩
   ·exact .inr (.inl ⟨by rw[hs];rfl,rfl,by rw[hs];rfl,rfl⟩)
  ·have FF:eW s[i]=false:=(by simpa using hs);refine⟨i,false,false,by rw[hd,Gu FF],af,ae,by rw[hd,Gu FF],.inr ⟨h,.inr (.inr ⟨fun h2=>hs ?_,fun h2=>hs ?_,rfl,rfl,rfl⟩)⟩⟩
   ·rw[show s[i]=43 from nK.1 h2];rfl
   ·rw[show s[i]=45 from nK.1 h2];rfl
 ·have e:i=s.length:=ae;subst e;exact⟨s.length,false,false,by rw[qZ];rfl,af,af,by rw[qZ];rfl,.inl ⟨rfl,rfl,rfl,rfl⟩⟩
def Ei (n1:Bool) (T b r:List UInt8):Option (Bool×Bool×List UInt8×List UInt8×List UInt8):=
 match sD r with
 | none=>none
 | some (down,p,q)=>if q=[] then some (n1,down,T,b,p) else none
theorem ao7 (s:List UInt8) (hlen:s.length≤1000) (w:World) :
  Calls prog 203 #[.string ⟨s.toArray⟩] w fun e w'=>∃ (neg down:Bool) (a b p:List UInt8) (ok:Bool),e=.returned (.tuple #[.agg #[.bool neg,.bool down,.string ⟨a.toArray⟩,.string ⟨b.toArray⟩,.string ⟨p.toArray⟩],.bool ok])∧Below w.heap.size w w'∧ao5 (Ai s) neg down a b p ok:=by
 obtain⟨R,hR⟩:∃ R,R=Ai s:=⟨_,rfl⟩
 rw[← hR];have HR:=Qh hR;clear hR;obtain⟨tr,tx,hsz,bh⟩:=rj w #[.bool false,.bool false,.string ⟨#[]⟩,.string ⟨#[]⟩,.string ⟨#[]⟩] #[.bool false,.bool false,.string ⟨#[]⟩,.string ⟨#[]⟩,.string ⟨#[]⟩] 314 314;refine aY tr tx bh ?_;intro TR TX bE;clear tr tx bh hsz;obtain⟨i1,Aj,Nl,rD,hs1,gA⟩:=ao4 s;obtain⟨n1,hn⟩:∃ n1,n1=(eF s).1:=⟨_,rfl⟩
 rw[← hn]at gA;refine fx rD hs1 gA hn ?_;clear rD hs1 gA hn;intro HD1 Ae tH Gi;go_enter func203,ntmps203
 go_upto_region 3 with fail
 generalize (w.alloc (.cells #[.bool false,.bool false,.string ⟨#[]⟩,.string ⟨#[]⟩,.string ⟨#[]⟩] 314)).alloc (.cells #[.bool false,.bool false,.string ⟨#[]⟩,.string ⟨#[]⟩,.string ⟨#[]⟩] 314)=W at *;obtain⟨x0,x1,x2,x3,x4,x5,x6,x7,x8,x9⟩:=TX.o.five;have hc:(s.length=0∧i1=0∧n1=false)∨(∃ h:0 < s.length,(s[0].toNat=43∧i1=1∧n1=false)∨(s[0].toNat=45∧i1=1∧n1=true)∨(s[0].toNat≠43∧s[0].toNat≠45∧i1=0∧n1=false)):=by
  have h1:=Ae.o;have h2:=tH.o;cases s with
  | nil=>exact .inl ⟨rfl,by simpa using Nl,h2⟩
  | cons c t=>
   right
   refine⟨aB,?_⟩;have h3:=h1 aB;clear h1;simp only[zu]at h3 h2 ⊢;by_cases hs:eW c=true
   ·rw[if_pos hs]at h3 h2;unfold eW at hs;rw[nJ,dZ,dZ]at hs;rcases hs with rfl|rfl
    ·exact .inl ⟨rfl,h3,h2⟩
    ·exact .inr (.inl ⟨rfl,h3,h2⟩)
   ·rw[if_neg hs]at h3 h2;refine .inr (.inr ⟨fun h=>hs ?_,fun h=>hs ?_,h3,h2⟩)
    ·rw[show c=43 from nK.1 h];rfl
    ·rw[show c=45 from nK.1 h];rfl
 clear Ae tH;go_cut [22] (fun x ws=>x=.bool (decide (i1=1))∧ws=W)
 case first=>
  rcases hc with ⟨q1,rfl,rfl⟩|⟨kh,hcc⟩
  ·have h0:¬ (0:Int) < s.length:=ae;go_wp2_with fail;go_meet
   case rel=>exact lz
  ·have h0:(0:Int) < s.length:=ae;have fZ:(⟨s.toArray⟩:ByteArray)[0]'kh = s[0]:=rfl;generalize s[0]=c at *;rcases hcc with ⟨q1,rfl,rfl⟩|⟨q1,rfl,rfl⟩|⟨q1,q2,rfl,rfl⟩
   ·have q:(c.toNat:Int)=43:=ae;go_wp2_with fail;go_meet
    case rel=>exact lz
   ·have q:(c.toNat:Int)=45:=ae;go_wp2_with fail;go_meet
    case rel=>exact lz
   ·refine OV ?_;intro e1 e2;go_wp2_with fail;go_meet
    case rel=>exact lz
 case rest=>
 obtain⟨rfl,rfl⟩:=hcut;go_upto_if 22 with (fail)
 go_cut [5] (fun x ws=>x=.int .i64 (i1:Nat)∧ai ws w.heap.size #[.bool false,.bool false,.string ⟨#[]⟩,.string ⟨#[]⟩,.string ⟨#[]⟩]∧ai ws (w.heap.size+1) #[.bool n1,.bool false,.string ⟨#[]⟩,.string ⟨#[]⟩,.string ⟨#[]⟩]∧Below w.heap.size w ws)
 case first=>
  rcases hc with ⟨q1,rfl,rfl⟩|⟨kh,hcc⟩
  ·have h0:¬ (0:Int) < s.length:=ae;go_wp2_with fail;go_meet
   case rel=>exact⟨rfl,TR.o,TX.o,bE.o⟩
  ·have h0:(0:Int) < s.length:=ae;have fZ:(⟨s.toArray⟩:ByteArray)[0]'kh = s[0]:=rfl;generalize s[0]=c at *;rcases hcc with ⟨q1,rfl,rfl⟩|⟨q1,rfl,rfl⟩|⟨q1,q2,rfl,rfl⟩
   ·have q:(c.toNat:Int)=43:=ae;go_wp2_with fail;go_meet
    case rel=>exact ab0
   ·have q:(c.toNat:Int)=45:=ae;go_wp2_with fail;go_meet
    case rel=>exact ab0
   ·refine OV ?_;intro e1 e2;go_wp2_with fail;go_meet
    case rel=>exact⟨rfl,TR.o,TX.o,bE.o⟩
 case rest=>
  clear x0 x1 x2 x3 x4 x5 x6 x7 x8 x9 TR TX bE hc;obtain⟨rfl,tr,tx,bh⟩:=hcut;refine aY tr tx bh ?_;intro TR TX bE;obtain⟨x0,x1,x2,x3,x4,x5,x6,x7,x8,x9⟩:=tx.five;obtain⟨r0,r1,r2,r3,r4,r5,r6,r7,r8,r9⟩:=tr.five;clear tr tx bh;have cd:=XQ s i1 ae Nl;have nR:=XP s i1 Nl;refine qW (R1 (s.drop i1)) ?_;intro nM;have gi:=Qh (show R=if tw (s.drop i1)=[] then none else match qf (s.drop (i1+(tw (s.drop i1)).length))with
   | none=>none
   | some (b,r)=>Ei n1 (tw (s.drop i1)) b r by
   rw[HR.o,Gi.o,← lG,← XO,HD1.o];rfl)
  clear HR HD1 Gi;generalize uX:tw (s.drop i1)=T1 at *;clear uX;by_cases hT:T1=[]
  ·subst hT;have HN:=Qh (show R=none by rw[gi.o,if_pos rfl]);have oL:∀ w:World,Calls prog 233 #[.string ⟨s.toArray⟩,.int .i64 i1] w fun e w'=>e=.returned (.int .i64 (i1:Nat))∧w' = w:=cd
   have afR:(⟨s.toArray⟩:ByteArray).extract i1 i1=⟨#[]⟩:=nR;clear gi cd nR nM;go_wp2_with fail;refine aI (oL _) ?_
   rintro e w1 ⟨rfl,rfl⟩;clear oL;go_wp2_with fail;try rw[Exit.noGoto_ret]
   exact bB (v:=.tuple #[.agg #[.bool false,.bool false,.string ⟨#[]⟩,.string ⟨#[]⟩,.string ⟨#[]⟩],.bool false]) Lt rfl ⟨false,false,[],[],[],false,rfl,(((((bE.o.setCell aB _).setCell aB _).setCell aB _).setCell aB _).setCell aB _).setCell aB _,zq⟩
  ·have jN:=Qh (show R=match qf (s.drop (i1+T1.length))with
    | none=>none
    | some (b,r)=>Ei n1 T1 b r by rw[gi.o,if_neg hT])
   have Ej:0 < T1.length:=by cases T1 with|nil=>exact absurd rfl hT|cons=>simp
   clear gi hT;obtain⟨k1,hk⟩:∃ k1,k1=i1+T1.length:=⟨_,rfl⟩
   rw[← hk]at jN cd nR;have hk2:k1≤s.length:=ae;have hk3:i1≤k1:=ae;have e1:((k1:Int) == (i1:Int))=false:=jy ae;clear hk Ej nM;have R3:=Qh (show ai (wc.setCell ⟨w.heap.size+1,2,none⟩ (.string ⟨T1.toArray⟩)) (w.heap.size+1) #[.bool n1,.bool false,.string ⟨T1.toArray⟩,.string ⟨#[]⟩,.string ⟨#[]⟩]from TX.o.set 2 _);have lf:=Qh (show ai (wc.setCell ⟨w.heap.size+1,2,none⟩ (.string ⟨T1.toArray⟩)) w.heap.size #[.bool false,.bool false,.string ⟨#[]⟩,.string ⟨#[]⟩,.string ⟨#[]⟩]from TR.o.other Ie _);have bX:=Qh (show Below w.heap.size w (wc.setCell ⟨w.heap.size+1,2,none⟩ (.string ⟨T1.toArray⟩))from bE.o.setCell aB _);go_wp2_with fail;refine aI (cd _) ?_
   rintro e w1 ⟨rfl,rfl⟩;clear cd;go_upto_region 11 with fail
   generalize w1.setCell ⟨w.heap.size+1,2,none⟩ (.string ⟨T1.toArray⟩)=W1 at *;clear x0 x1 x2 x3 x4 x5 x6 x7 x8 x9 r0 r1 r2 r3 r4 r5 r6 r7 r8 r9 TR TX bE nR e1;obtain⟨x0,x1,x2,x3,x4,x5,x6,x7,x8,x9⟩:=R3.o.five;obtain⟨r0,r1,r2,r3,r4,r5,r6,r7,r8,r9⟩:=lf.o.five;have ao8:(∃ b:Bool,b=decide (∃ h:k1 < s.length,s[k1].toNat=46)):=⟨_,rfl⟩
   obtain⟨b,hb⟩:=ao8;have eE:=Qh hb;clear hb;go_cut [52] (fun x ws=>x=.bool b∧ws=W1)
   case first=>
    by_cases h0:(k1:Int) < s.length
    ·have kh:k1 < s.length:=ae;have fZ:(⟨s.toArray⟩:ByteArray)[k1]'kh = s[k1]:=rfl;by_cases Gv:s[k1].toNat=46
     ·have dS:=Qh (show b=true by rw[eE.o];exact fy ⟨kh,Gv⟩);generalize s[k1]=c at *;have q:(c.toNat:Int)=46:=ae;clear eE Gv;go_wp2_with fail;go_meet
      case rel=>exact E9
     ·have dS:=Qh (show b=false by rw[eE.o];exact dU (fun⟨_,h⟩=>Gv h));generalize s[k1]=c at *;have q:((c.toNat:Int) == 46)=false:=jy ae;clear eE Gv;go_wp2_with fail;go_meet
      case rel=>exact E9
    ·have dS:=Qh (show b=false by rw[eE.o];exact dU (fun⟨h,_⟩=>h0 ae));clear eE;go_wp2_with fail;go_meet
     case rel=>exact E9
   case rest=>
    obtain⟨rfl,rfl⟩:=hcut;go_upto_if 52 with (fail)
    go_cut [5] (fun x ws=>∃ (bk:List UInt8) (i2:Nat),x=.int .i64 (i2:Nat)∧i2≤s.length∧R=Ei n1 T1 bk (s.drop i2)∧ai ws (w.heap.size+1) #[.bool n1,.bool false,.string ⟨T1.toArray⟩,.string ⟨bk.toArray⟩,.string ⟨#[]⟩]∧ai ws w.heap.size #[.bool false,.bool false,.string ⟨#[]⟩,.string ⟨#[]⟩,.string ⟨#[]⟩]∧Below w.heap.size w ws)
    case first=>
     cases b
     ·have HN:=Qh (show R=Ei n1 T1 [] (s.drop k1)by
       rw[jN.o];rcases lI k1 s.length with h|h
       ·rw[jq h];have h2:s[k1]≠46:=fun e=>by
         have h3:=of_decide_eq_false eE.o.symm;exact h3 ⟨h,lD⟩
        unfold qf;simp only[h2,tj]
       ·rw[rP h];rfl)
      clear jN eE;go_wp2_with fail;go_meet
      case rel=>exact⟨[],k1,rfl,hk2,HN.o,R3.o,lf.o,bX.o⟩
     ·obtain⟨kh,Gv⟩:=Fs eE.o.symm;have HD:=Qh (show s.drop k1=46::s.drop (k1+1)by rw[jq kh,show s[k1]=46 from nK.1 Gv]);obtain⟨k',pW⟩:∃ k',k' = k1+1:=⟨_,rfl⟩
      have FQ:(k1:Int)+1=(k':Int):=ae;have afS:k'≤s.length:=ae;have cd:=XQ s k' ae afS;have nR:=XP s k' afS;refine qW (R1 (s.drop k')) ?_;intro pZ;have pq:=Qh (show R=if tw (s.drop k')=[] then none else Ei n1 T1 (tw (s.drop k')) (s.drop (k' + (tw (s.drop k')).length))by
       rw[jN.o,HD.o,← pW,← lG,← XO];unfold qf;simp only[kG];by_cases h:tw (s.drop k')=[]
       ·rw[if_pos h,if_pos h]
       ·rw[if_neg h,if_neg h])
      clear jN eE HD pW Gv kh;generalize uX:tw (s.drop k')=T2 at *;clear uX;by_cases hT:T2=[]
      ·subst hT;have HN:=Qh (show R=none by rw[pq.o,if_pos rfl]);have oL:∀ w:World,Calls prog 233 #[.string ⟨s.toArray⟩,.int .i64 k'] w fun e w'=>e=.returned (.int .i64 (k':Nat))∧w' = w:=cd
       have afR:(⟨s.toArray⟩:ByteArray).extract k' k' = ⟨#[]⟩:=nR;clear pq cd nR pZ;go_wp2_with fail;refine aI (oL _) ?_
       rintro e w2 ⟨rfl,rfl⟩;clear oL;go_wp2_with fail;try rw[Exit.noGoto_ret]
       exact bB (v:=.tuple #[.agg #[.bool false,.bool false,.string ⟨#[]⟩,.string ⟨#[]⟩,.string ⟨#[]⟩],.bool false]) Lt rfl ⟨false,false,[],[],[],false,rfl,((((((bX.o.setCell aB _).setCell aB _).setCell aB _).setCell aB _).setCell aB _).setCell aB _),zq⟩
      ·have HN:=Qh (show R=Ei n1 T1 T2 (s.drop (k' + T2.length))by rw[pq.o,if_neg hT]);have Ej:0 < T2.length:=by cases T2 with|nil=>exact absurd rfl hT|cons=>simp
       clear pq hT;obtain⟨k2,hk⟩:∃ k2,k2=k' + T2.length:=⟨_,rfl⟩
       rw[← hk]at HN cd nR;have hk4:k2≤s.length:=ae;have hk5:k'≤k2:=ae;have e1:((k2:Int) == (k':Int))=false:=jy ae;clear hk Ej pZ;go_wp2_with fail;refine aI (cd _) ?_
       rintro e w2 ⟨rfl,rfl⟩;clear cd;go_wp2_with fail;go_meet
       case rel=>exact⟨T2,k2,rfl,hk4,HN.o,R3.o.set 3 _,lf.o.other Ie _,bX.o.setCell aB _⟩
    case rest=>
     clear x0 x1 x2 x3 x4 x5 x6 x7 x8 x9 r0 r1 r2 r3 r4 r5 r6 r7 r8 r9 R3 lf bX jN eE;obtain⟨bk,i2,rfl,Nl,hr,tx,tr,hb⟩:=hcut;refine xf ?_;intro W3 hW3
     subst hW3;refine lC hr tx tr hb ?_;intro Gw TX TR HB;obtain⟨x0,x1,x2,x3,x4,x5,x6,x7,x8,x9⟩:=tx.five;obtain⟨r0,r1,r2,r3,r4,r5,r6,r7,r8,r9⟩:=tr.five;clear hr tx tr hb;obtain⟨b,hb⟩:(∃ b:Bool,b=decide (∃ h:i2 < s.length,s[i2].toNat=101∨s[i2].toNat=69)):=⟨_,rfl⟩
     have eE:=Qh hb;clear hb;go_upto_region 17 with fail
     go_cut [84] (fun x ws=>x=.bool b∧ws=W3)
     case first=>
      by_cases h0:(i2:Int) < s.length
      ·have kh:i2 < s.length:=ae;have fZ:(⟨s.toArray⟩:ByteArray)[i2]'kh = s[i2]:=rfl;by_cases Nn:s[i2].toNat=101
       ·have dS:=Qh (show b=true by rw[eE.o];exact fy ⟨kh,.inl Nn⟩);generalize s[i2]=c at *;have q:(c.toNat:Int)=101:=ae;clear eE Nn;go_wp2_with fail;go_meet
        case rel=>exact E9
       by_cases R7:s[i2].toNat=69
       ·have dS:=Qh (show b=true by rw[eE.o];exact fy ⟨kh,.inr R7⟩);generalize s[i2]=c at *;have q:(c.toNat:Int)=69:=ae;clear eE Nn R7;go_wp2_with fail;go_meet
        case rel=>exact E9
       have dS:=Qh (show b=false by rw[eE.o];exact dU (fun⟨_,h⟩=>h.elim Nn R7));generalize s[i2]=c at *;have q1:((c.toNat:Int) == 101)=false:=jy ae;have q2:((c.toNat:Int) == 69)=false:=jy ae;clear eE Nn R7;go_wp2_with fail;go_meet
       case rel=>exact E9
      ·have dS:=Qh (show b=false by rw[eE.o];exact dU (fun⟨h,_⟩=>h0 ae));clear eE;go_wp2_with fail;go_meet
       case rel=>exact E9
     case rest=>
      obtain⟨rfl,rfl⟩:=hcut;go_upto_if 84 with (fail)
      go_cut [5] (fun x ws=>∃ (down:Bool) (p:List UInt8) (i4:Nat),x=.int .i64 (i4:Nat)∧i4≤s.length∧R=(if s.drop i4=[] then some (n1,down,T1,bk,p) else none)∧ai ws (w.heap.size+1) #[.bool n1,.bool down,.string ⟨T1.toArray⟩,.string ⟨bk.toArray⟩,.string ⟨p.toArray⟩]∧ai ws w.heap.size #[.bool false,.bool false,.string ⟨#[]⟩,.string ⟨#[]⟩,.string ⟨#[]⟩]∧Below w.heap.size w ws)
      case first=>
       cases b
       ·have HN:=Qh (show R=if s.drop i2=[] then some (n1,false,T1,bk,[]) else none by
         rw[Gw.o];unfold Ei;rcases lI i2 s.length with h|h
         ·rw[jq h];have h3:=of_decide_eq_false eE.o.symm;have h2:ju s[i2]=false:=by
           rw[rS];intro e;unfold ju at e;rw[nJ,dZ,dZ]at e;rcases e with e|e
           ·exact h3 ⟨h,.inl lD⟩
           ·exact h3 ⟨h,.inr lD⟩
          unfold sD;simp[h2]
         ·rw[rP h];rfl)
        clear Gw eE;go_wp2_with fail;go_meet
        case rel=>exact⟨false,[],i2,rfl,Nl,HN.o,TX.o,TR.o,HB.o⟩
       ·obtain⟨kh,yE⟩:=Fs eE.o.symm;have heb:ju s[i2]=true:=by
         unfold ju;rw[nJ,dZ,dZ];rcases yE with e|e
         ·exact .inl (nK.1 e)
         ·exact .inr (nK.1 e)
        obtain⟨k3,BO⟩:∃ k3,k3=i2+1:=⟨_,rfl⟩
        have FQ:(i2:Int)+1=(k3:Int):=ae;have ao9:k3≤s.length:=ae;obtain⟨j,n,sg,hn,MX,tF,R9,hc⟩:=ao6 s k3 ao9;have xL:=Qh (show R=if tw (s.drop j)=[] then none else if s.drop (j+(tw (s.drop j)).length)=[] then some (n1,n,T1,bk,tw (s.drop j)) else none by
         rw[Gw.o,jq kh,← BO,hn,← lG,← XO,R9];unfold Ei sD;simp only[heb,kG];by_cases h:tw (eF (s.drop k3)).2=[]
         ·rw[if_pos h,if_pos h]
         ·rw[if_neg h,if_neg h])
        clear Gw eE yE heb BO hn R9 kh;go_upto_region 19 with fail
        go_cut [102] (fun x ws=>x=.bool sg∧ws=wc)
        case first=>
         rcases hc with ⟨q1,hj,rfl,rfl⟩|⟨kh,hcc⟩
         ·have h0:¬ (k3:Int) < s.length:=ae;have HJ:=Qh hj;clear q1 hj;go_wp2_with fail;go_meet
          case rel=>exact lz
         ·have h0:(k3:Int) < s.length:=ae;have fZ:(⟨s.toArray⟩:ByteArray)[k3]'kh = s[k3]:=rfl;generalize s[k3]=c at *;rcases hcc with ⟨q1,hj,rfl,rfl⟩|⟨q1,hj,rfl,rfl⟩|⟨q1,q2,hj,rfl,rfl⟩
          ·have q:(c.toNat:Int)=43:=ae;have HJ:=Qh hj;clear q1 hj;go_wp2_with fail;go_meet
           case rel=>exact lz
          ·have q:(c.toNat:Int)=45:=ae;have HJ:=Qh hj;clear q1 hj;go_wp2_with fail;go_meet
           case rel=>exact lz
          ·refine OV ?_;intro e1 e2;have HJ:=Qh hj;clear q1 q2 hj;go_wp2_with fail;go_meet
           case rel=>exact lz
        case rest=>
         obtain⟨rfl,rfl⟩:=hcut;go_upto_if 102 with (fail)
         go_cut [5] (fun x ws=>x=.int .i64 (j:Nat)∧ai ws (w.heap.size+1) #[.bool n1,.bool n,.string ⟨T1.toArray⟩,.string ⟨bk.toArray⟩,.string ⟨#[]⟩]∧ai ws w.heap.size #[.bool false,.bool false,.string ⟨#[]⟩,.string ⟨#[]⟩,.string ⟨#[]⟩]∧Below w.heap.size w ws)
         case first=>
          rcases hc with ⟨q1,hj,rfl,rfl⟩|⟨kh,hcc⟩
          ·have h0:¬ (k3:Int) < s.length:=ae;have HJ:=Qh hj;clear q1 hj;go_wp2_with fail;go_meet
           case rel=>exact⟨by rw[HJ.o],TX.o,TR.o,HB.o⟩
          ·have h0:(k3:Int) < s.length:=ae;have fZ:(⟨s.toArray⟩:ByteArray)[k3]'kh = s[k3]:=rfl;generalize s[k3]=c at *;rcases hcc with ⟨q1,hj,rfl,rfl⟩|⟨q1,hj,rfl,rfl⟩|⟨q1,q2,hj,rfl,rfl⟩
           ·have q:(c.toNat:Int)=43:=ae;have HJ:=Qh hj;clear q1 hj;go_wp2_with fail;go_meet
            case rel=>exact abJ
           ·have q:(c.toNat:Int)=45:=ae;have HJ:=Qh hj;clear q1 hj;go_wp2_with fail;go_meet
            case rel=>exact abJ
           ·refine OV ?_;intro e1 e2;have HJ:=Qh hj;clear q1 q2 hj;go_wp2_with fail;go_meet
            case rel=>exact⟨by rw[HJ.o],TX.o,TR.o,HB.o⟩
         case rest=>
          clear x0 x1 x2 x3 x4 x5 x6 x7 x8 x9 r0 r1 r2 r3 r4 r5 r6 r7 r8 r9 TX TR HB hc;obtain⟨rfl,tx,tr,hb⟩:=hcut;refine aY tx tr hb ?_;intro TX TR HB;obtain⟨x0,x1,x2,x3,x4,x5,x6,x7,x8,x9⟩:=tx.five;obtain⟨r0,r1,r2,r3,r4,r5,r6,r7,r8,r9⟩:=tr.five;clear tx tr hb;have cd:=XQ s j ae tF;have nR:=XP s j tF;refine qW (R1 (s.drop j)) ?_;intro pZ;generalize uX:tw (s.drop j)=T3 at *;clear uX;by_cases hT:T3=[]
          ·subst hT;have HN:=Qh (show R=none by rw[xL.o,if_pos rfl]);have oL:∀ w:World,Calls prog 233 #[.string ⟨s.toArray⟩,.int .i64 j] w fun e w'=>e=.returned (.int .i64 (j:Nat))∧w' = w:=cd
           have afR:(⟨s.toArray⟩:ByteArray).extract j j=⟨#[]⟩:=nR;clear xL cd nR pZ;go_wp2_with fail;refine aI (oL _) ?_
           rintro e w2 ⟨rfl,rfl⟩;clear oL;go_wp2_with fail;try rw[Exit.noGoto_ret]
           exact bB (v:=.tuple #[.agg #[.bool false,.bool false,.string ⟨#[]⟩,.string ⟨#[]⟩,.string ⟨#[]⟩],.bool false]) Lt rfl ⟨false,false,[],[],[],false,rfl,((((((HB.o.setCell aB _).setCell aB _).setCell aB _).setCell aB _).setCell aB _).setCell aB _),zq⟩
          ·have HN:=Qh (show R=if s.drop (j+T3.length)=[] then some (n1,n,T1,bk,T3) else none by rw[xL.o,if_neg hT]);have Ej:0 < T3.length:=by cases T3 with|nil=>exact absurd rfl hT|cons=>simp
           clear xL hT;obtain⟨k4,hk⟩:∃ k4,k4=j+T3.length:=⟨_,rfl⟩
           rw[← hk]at HN cd nR;have hk4:k4≤s.length:=ae;have hk5:j≤k4:=ae;have e1:((k4:Int) == (j:Int))=false:=jy ae;clear hk Ej pZ;go_wp2_with fail;refine aI (cd _) ?_
           rintro e w2 ⟨rfl,rfl⟩;clear cd;go_wp2_with fail;go_meet
           case rel=>exact⟨n,T3,k4,rfl,hk4,HN.o,TX.o.set 4 _,TR.o.other Ie _,HB.o.setCell aB _⟩
      case rest=>
       clear x0 x1 x2 x3 x4 x5 x6 x7 x8 x9 r0 r1 r2 r3 r4 r5 r6 r7 r8 r9 TX TR HB Gw eE;obtain⟨down,p,i4,rfl,hi4,hr,tx,tr,hb⟩:=hcut;refine lC hr tx tr hb ?_;intro Sa TX TR HB;obtain⟨x0,x1,x2,x3,x4,x5,x6,x7,x8,x9⟩:=tx.five;obtain⟨r0,r1,r2,r3,r4,r5,r6,r7,r8,r9⟩:=tr.five;clear tx tr hb hr;by_cases he:i4=s.length
       ·have e1:((i4:Int) == (s.length:Int))=true:=Dc;have HN:=Qh (show R=some (n1,down,T1,bk,p)by rw[Sa.o,he,qZ,if_pos rfl]);clear Sa he;go_wp2_with fail;try rw[Exit.noGoto_ret]
        exact bB (v:=.tuple #[.agg #[.bool n1,.bool down,.string ⟨T1.toArray⟩,.string ⟨bk.toArray⟩,.string ⟨p.toArray⟩],.bool true]) Lt rfl ⟨n1,down,T1,bk,p,true,rfl,(((((HB.o.setCell aB _).setCell aB _).setCell aB _).setCell aB _).setCell aB _),by rw[HN.o];exact⟨rfl,rfl⟩⟩
       ·have e1:((i4:Int) == (s.length:Int))=false:=jy ae;have HN:=Qh (show R=none by
         rw[Sa.o,if_neg];intro h;have:=jA List.length h;rw[e7]at this;simp at this;omega)
        clear Sa he;go_wp2_with fail;try rw[Exit.noGoto_ret]
        exact bB (v:=.tuple #[.agg #[.bool n1,.bool down,.string ⟨T1.toArray⟩,.string ⟨bk.toArray⟩,.string ⟨p.toArray⟩],.bool false]) Lt rfl ⟨n1,down,T1,bk,p,false,rfl,(((((HB.o.setCell aB _).setCell aB _).setCell aB _).setCell aB _).setCell aB _),zq⟩
theorem apc {neg:Bool} {n:Nat} {e:Int} (hn:0 < n) (he:100 < e):nU neg n e=none:=by
 unfold nU;rw[show(-e).toNat=0 by omega,vQ,afT];have h1:10 ^ 20≤10 ^ e.toNat:=xr ah ae;have h2:10 ^ e.toNat≤n*10 ^ e.toNat:=LH _ hn;exact iH ah (bQ h1 h2)
theorem apd {neg:Bool} {n:Nat} {e:Int} (hn:0 < n) (wj:n < 10 ^ 96) (he:e < -200):nU neg n e=none:=by
 obtain⟨v,z,h1,h2,h3⟩:=afU n hn;have hz:z < 96:=by
  apply (Nat.pow_lt_pow_iff_right (by decide:1 < 10)).1;refine Bx ?_ wj;rw[h1];exact LH _ h3
 rw[h1,afV];unfold nU;rw[show(e+z).toNat=0 by omega,vQ,Nat.mul_one,afW h2 ae]
theorem Si {j:Nat} (h:j≤300):(aT (10 ^ j)).length≤32:=by
 refine(nT _ 32).2 (Bx (xr ah h) ?_);decide +kernel
theorem af6 (k:Nat) (hk:k≤300) (w:World) :
  Calls prog 209 #[.int .i64 k] w (z8 w (10 ^ k)):=by
 have Sh:∀ w,Calls prog 206 #[.int .u64 1] w (z8 w 1):=fun w=>JI 1 ah w
 have Nq:∀ w,Calls prog 206 #[.int .u64 10] w (z8 w 10):=fun w=>JI 10 ah w
 go_enter func209,ntmps209
 go_wp2_with fail;refine aI (Sh _) ?_
 rintro e w1 ⟨v1,rfl,gA,jk,hb1⟩;obtain⟨a1,c1,rfl,hs1⟩:=gA;clear Sh;go_wp2_with fail;go_loopw [3,4] (fun v i wr=>∃ j:Nat,i=.int .i64 (j:Nat)∧j≤k∧lQ wr v (10 ^ j)∧Gm w.heap.size v∧Below w.heap.size w wr) (fun _ i _=>k - (intOf i).toNat)
 case atStart=>exact⟨0,rfl,bV _,⟨a1,c1,rfl,hs1⟩,jk,hb1⟩
 case round=>
  clear hs1 jk hb1;obtain⟨j,rfl,hj,⟨a,c,rfl,hs⟩,hf,hb⟩:=hrel;have HF:=Qh hf;clear hf;by_cases hlt:(j:Int) < k
  ·have hl:=Si (show j≤300 by omega);go_wp2_with fail;refine aI (Nq _) ?_
   rintro e w2 ⟨_,rfl,⟨a2,c2,rfl,hs2⟩,hf2,hb2⟩;have cx:=XC (10 ^ j) 10 a a2 c c2 ae (by have:=Ns (n:=10) ah;omega) w2 (hs.keep hb2 af) hs2;have HB:=Qh (aH hb hb2 af);clear hs hs2 hf2 hb2 hb hl;go_wp2_with fail;refine aI cx ?_;rintro e w3 ⟨v3,rfl,tJ,hf3,hb3⟩;refine aY tJ (apU hf3 HB.o.size) (aH HB.o hb3 af) ?_;intro HN pA bT;clear tJ hf3 hb3 cx;go_wp2_with fail;go_roundw;case rel=>exact⟨j+1,bL,ae,by rw[e8];exact HN.o,pA.o,bT.o⟩
   case measure=>exact bY
  ·obtain rfl:j=k:=by omega
   go_wp2_with fail;go_ret;exact⟨_,rfl,⟨a,c,rfl,hs⟩,HF.o,hb⟩
end Go.Proofs.YtfflljgnpfldfaaGreatDoor
