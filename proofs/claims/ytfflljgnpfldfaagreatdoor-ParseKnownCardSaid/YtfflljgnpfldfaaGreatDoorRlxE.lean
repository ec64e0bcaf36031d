/-
  The reference of chapter 04: quoted, sign: contracts.
-/
import Derived.Test.YtfflljgnpfldfaaGreatDoorListTxt
import Derived.Test.YtfflljgnpfldfaaGreatDoorLexE
set_option linter.all false
set_option maxHeartbeats 128000000
set_option maxRecDepth 100000
namespace Go.Proofs.YtfflljgnpfldfaaGreatDoor
open Go.Proofs.Tryz
open Go.RowKit
theorem ah0 (r:Nat) (w:World) :
  Calls prog 149 #[.int .i32 (r:Nat)] w fun e w'=>e=.returned (.bool (mj r))∧w' = w:=by
 have HI:=Qh (adq r);generalize mj r=b at *;by_cases h1:(r:Int) < 32
 ·have HB:=Qh (show b=true from HI.o.2 (.inl ae));clear HI;go_enter func149,ntmps149
  go_wp2_with fail;go_ret;exact⟨mO,rfl⟩
 ·by_cases h2:r=127
  ·have HB:=Qh (show b=true from HI.o.2 (.inr h2));have hb:((r:Int) == 127)=true:=(by rw[h2];rfl);clear HI h2;go_enter func149,ntmps149
   go_wp2_with fail;go_ret;exact⟨mO,rfl⟩
  ·have HB:=Qh (show b=false by rw[rS];intro h;rcases HI.o.1 h with h|h<;>omega);have hb:((r:Int) == 127)=false:=ft;clear HI h2;go_enter func149,ntmps149
   go_wp2_with fail;go_ret;exact⟨mO,rfl⟩
theorem ah1 (r:Nat) (w:World) :
  Calls prog 103 #[.int .i32 (r:Nat)] w fun e w'=>e=.returned (.bool (iR r))∧w' = w:=by
 have e1:((r:Int) == 32)=(r == 32):=PH;have e2:((r:Int) == 9)=(r == 9):=PH;have e3:((r:Int) == 10)=(r == 10):=PH;have e4:((r:Int) == 13)=(r == 13):=PH;have HI:=Qh (show iR r=(r == 32 || r == 9 || r == 10 || r == 13)from rfl);generalize iR r=b at *;generalize (r == 32)=b1 at *;generalize (r == 9)=b2 at *;generalize (r == 10)=b3 at *;generalize (r == 13)=b4 at *;cases b1<;>cases b2<;>cases b3<;>cases b4
 all_goals
  have HB:=Qh HI.o;clear HI;go_enter func103,ntmps103
  go_wp2_with fail;go_ret;exact⟨mO,rfl⟩
theorem aas (r:Nat) (w:World) :
  Calls prog 150 #[.int .u8 (r:Nat)] w fun e w'=>e=.returned (.bool (js r))∧w' = w:=by
 have HI:=Qh (WG r);generalize js r=b at *;have fin:∀ v:Bool,(v=true↔(97≤r∧r≤122)∨(65≤r∧r≤90)∨r=95)→b=v:=fun v hv=>PY
 by_cases h1:(97:Int)≤r
 ·by_cases h2:(r:Int)≤122
  ·have HB:=Qh (fin true cO);clear HI fin;go_enter func150,ntmps150
   go_wp2_with fail;go_ret;exact⟨mO,rfl⟩
  ·have HB:=Qh (fin false cO);have h3:(65:Int)≤r:=ae;have h4:¬ (r:Int)≤90:=ae;have h5:((r:Int) == 95)=false:=ft;clear HI fin;go_enter func150,ntmps150
   go_wp2_with fail;go_ret;exact⟨mO,rfl⟩
 ·by_cases h3:(65:Int)≤r
  ·by_cases h4:(r:Int)≤90
   ·have HB:=Qh (fin true cO);clear HI fin;go_enter func150,ntmps150
    go_wp2_with fail;go_ret;exact⟨mO,rfl⟩
   ·by_cases h6:r=95
    ·have HB:=Qh (fin true cO);have h5:((r:Int) == 95)=true:=(by rw[h6];rfl);clear HI fin h6;go_enter func150,ntmps150
     go_wp2_with fail;go_ret;exact⟨mO,rfl⟩
    ·have HB:=Qh (fin false cO);have h5:((r:Int) == 95)=false:=ft;clear HI fin h6;go_enter func150,ntmps150
     go_wp2_with fail;go_ret;exact⟨mO,rfl⟩
  ·have HB:=Qh (fin false cO);have h5:((r:Int) == 95)=false:=ft;clear HI fin;go_enter func150,ntmps150
   go_wp2_with fail;go_ret;exact⟨mO,rfl⟩
theorem Oq (r:Nat) (w:World) :
  Calls prog 151 #[.int .u8 (r:Nat)] w fun e w'=>e=.returned (.bool (eZ r))∧w' = w:=by
 have HI:=Qh (WH r);generalize eZ r=b at *;have fin:∀ v:Bool,(v=true↔48≤r∧r≤57)→b=v:=fun v hv=>PY
 by_cases h1:(48:Int)≤r
 ·by_cases h2:(r:Int)≤57
  ·have HB:=Qh (fin true cO);clear HI fin;go_enter func151,ntmps151
   go_wp2_with fail;go_ret;exact⟨mO,rfl⟩
  ·have HB:=Qh (fin false cO);clear HI fin;go_enter func151,ntmps151
   go_wp2_with fail;go_ret;exact⟨mO,rfl⟩
 ·have HB:=Qh (fin false cO);clear HI fin;go_enter func151,ntmps151
  go_wp2_with fail;go_ret;exact⟨mO,rfl⟩
theorem Ot (s:List UInt8) (i:Nat) (hs:s.length≤1000000000) (w:World) :
  Calls prog 152 #[.string ⟨s.toArray⟩,.int .i64 (i:Nat)] w fun e w'=>e=.returned (.int .u8 ((bS s i).toNat:Nat))∧w' = w:=by
 by_cases h:(i:Int) < s.length
 ·have h':i < s.length:=ae;have fZ:(⟨s.toArray⟩:ByteArray)[i]'h' = s[i]:=rfl;rw[Tw h'];generalize s[i]=c at *;go_enter func152,ntmps152
  go_wp2_with fail;go_ret;exact⟨rfl,rfl⟩
 ·rw[aat ae];go_enter func152,ntmps152
  go_wp2_with fail;go_ret;exact⟨rfl,rfl⟩
theorem aau (s:List UInt8) (i:Nat) (hs:s.length≤1000000000) (hi:i≤s.length) (w:World) :
  Calls prog 177 #[.string ⟨s.toArray⟩,.int .i64 i] w fun e w'=>e=.returned (.int .i64 (i+(tw (s.drop i)).length:Nat))∧w' = w:=by
 obtain⟨T,hT⟩:∃ T,T=i+(tw (s.drop i)).length:=⟨_,rfl⟩
 rw[← hT];have HT:=Qh hT;clear hT;go_enter func177,ntmps177
 go_wp2_with fail;go_loopw [1] (fun x wr=>∃ k:Nat,x=.int .i64 (k:Nat)∧k≤s.length∧T=k+(tw (s.drop k)).length∧wr=w) (fun x _=>s.length - (intOf x).toNat)
 case atStart=>exact⟨i,rfl,hi,HT.o,rfl⟩
 case round=>
  obtain⟨k,rfl,hk,jz,rfl⟩:=hrel;by_cases hlt:(k:Int) < s.length
  ·have a8:k < s.length:=ae;have fZ:(⟨s.toArray⟩:ByteArray)[k]'a8 = s[k]:=rfl;have hd:=jq a8;rw[hd]at jz;generalize s[k]=c at *;have cd:=Oq c.toNat;rw[show eZ c.toNat=fq c from rfl]at cd;cases hc:fq c
   ·rw[uw hc]at jz;have kY:=Qh (show T=k from jz);rw[hc]at cd;clear hd jz hc HT;go_wp2_with fail;with_reducible refine(cd _).mono ?_
    rintro e w1 ⟨rfl,rfl⟩;clear cd;go_wp2_with fail;go_ret;exact⟨by rw[kY.o];rfl,rfl⟩
   ·rw[sx hc]at jz;have kY:=Qh (show T=k+1+(tw (s.drop (k+1))).length by rw[jz,dz];omega);rw[hc]at cd;clear hd jz hc;go_wp2_with fail;with_reducible refine(cd _).mono ?_
    rintro e w1 ⟨rfl,rfl⟩;clear cd;go_wp2_with fail;go_roundw;case rel=>exact⟨k+1,dV,ae,kY.o,trivial⟩
    case measure=>(simp[intOf]<;>omega)
  ·have kY:=Qh (show T=k by rw[jz,show k=s.length by omega,qZ];rfl);clear jz HT;go_wp2_with fail;go_ret;exact⟨by rw[kY.o];rfl,rfl⟩
open Go.RowKit Go.Shelf
theorem mL {c:UInt8} {k:Int} (hk:0≤k∧k < 256) (h:c=UInt8.ofNat k.toNat):((c.toNat:Int) == k)=true:=by
 have:=ah6 c k.toNat ae;rw[Int.toNat_of_nonneg hk.1]at this;rw[this,rR];exact h
theorem kR {c:UInt8} {k:Int} (hk:0≤k∧k < 256) (h:c≠UInt8.ofNat k.toNat):((c.toNat:Int) == k)=false:=by
 have:=ah6 c k.toNat ae;rw[Int.toNat_of_nonneg hk.1]at this;rw[this,decide_eq_false_iff_not];exact h
theorem Hj {c:UInt8} {k:Int} (hk:0≤k∧k < 256) (h:c=UInt8.ofNat k.toNat):((c.toNat:Int) != k)=false:=by
 rw[bne,mL hk h];rfl
theorem Ty {c:UInt8} {k:Int} (hk:0≤k∧k < 256) (h:c≠UInt8.ofNat k.toNat):((c.toNat:Int) != k)=true:=by
 rw[bne,kR hk h];rfl
theorem asL (s:List UInt8) (x:Int) (i:Nat) (hx:x=(i:Nat)) (hs:s.length≤1000000000) (hi:i≤s.length) (w:World) :
  Calls prog 177 #[.string ⟨s.toArray⟩,.int .i64 x] w fun e w'=>e=.returned (.int .i64 (i+(tw (s.drop i)).length:Nat))∧w' = w:=by
 rw[hx];exact aau s i hs hi w
theorem Tz (s:List UInt8) (x:Int) (i:Nat) (hx:x=(i:Nat)) (hs:s.length≤1000000000) (w:World) :
  Calls prog 152 #[.string ⟨s.toArray⟩,.int .i64 x] w fun e w'=>e=.returned (.int .u8 ((bS s i).toNat:Nat))∧w' = w:=by
 rw[hx];exact Ot s i hs w
theorem ah7 {s:List UInt8} {i:Nat} (h:bS s i≠0):i < s.length:=by
 rcases lI i s.length with h1|h1
 ·exact h1
 ·exact absurd (aat ae) h
theorem asM (s:List UInt8) (i:Nat) (hs:s.length≤1000000000) (hi:i < s.length) (h1:tw (s.drop (i+dA (s.drop i)))≠[]) (w:World) :
  Calls prog 153 #[.string ⟨s.toArray⟩,.int .i64 (i:Nat)] w fun e w'=>∃ (K:Int) (b:Bool),e=.returned (.tuple #[.int .i64 K,.bool b])∧w' = w∧(b=true→K=(Hk s i:Nat)∧Hk s i≠0)∧(b=false→Hk s i=0):=by
 obtain⟨V,hV⟩:∃ V,V=Hk s i:=⟨_,rfl⟩
 rw[← hV];have cV:=ah8 s i;have cA:=fun w=>Ot s i hs w
 obtain⟨iY,hg2⟩:=D7 (s.drop i);rw[e7]at hg2;obtain⟨i1,Aj⟩:∃ i1,i1=i+dA (s.drop i):=⟨_,rfl⟩
 have hV1:V=ni s (i1+(tw (s.drop i1)).length):=(by rw[hV,Aj];rfl);rw[← Aj]at h1;rw[cV]at Aj;have asN:i1≤s.length:=(by rw[Aj];split<;>omega);refine aY hV1 Aj h1 ?_;intro rC Ou H1;clear hV cV iY hg2 hV1 Aj h1;generalize bS s i=c0 at *;go_enter func153,ntmps153
 go_upto_region 1 with fail
 go_cut [18] (fun x ws=>x=.bool (eW c0)∧ws=w)
 case first=>
  by_cases e1:c0=43
  ·have HB:=Qh (show eW c0=true by rw[e1];rfl);have g1:=mL (k:=43) ah e1;clear e1;go_wp2_with fail;refine aI (cA _) ?_
   rintro e w ⟨rfl,rfl⟩;go_wp2_with fail;go_meet
   case rel=>exact ur
  ·by_cases e2:c0=45
   ·have HB:=Qh (show eW c0=true by rw[e2];rfl);have g1:=kR (k:=43) ah e1;have g2:=mL (k:=45) ah e2;clear e1 e2;go_wp2_with fail;refine aI (cA _) ?_
    rintro e w ⟨rfl,rfl⟩;go_wp2_with fail;refine aI (cA _) ?_
    rintro e w ⟨rfl,rfl⟩;go_wp2_with fail;go_meet
    case rel=>exact ur
   ·have HB:=Qh (show eW c0=false by rw[rS];intro h;rcases (ah9 c0).1 h with h|h;exact e1 h;exact e2 h);have g1:=kR (k:=43) ah e1;have g2:=kR (k:=45) ah e2;clear e1 e2;go_wp2_with fail;refine aI (cA _) ?_
    rintro e w ⟨rfl,rfl⟩;go_wp2_with fail;refine aI (cA _) ?_
    rintro e w ⟨rfl,rfl⟩;go_wp2_with fail;go_meet
    case rel=>exact ur
 case rest=>
 obtain⟨rfl,rfl⟩:=hcut;generalize eW c0=b0 at *;clear cA;go_upto_if 18 with (fail)
 go_cut [1] (fun x ws=>x=.int .i64 (i1:Nat)∧ws=wc)
 case first=>
  cases b0
  ·have HQ:=Qh (show i1=i from Ou.o);clear Ou;go_wp2_with fail;go_meet
   case rel=>exact⟨by rw[HQ.o],rfl⟩
  ·have HQ:=Qh (show(i1:Int)=(i:Int)+1 by have:=Ou.o;simp at this;omega);clear Ou;go_wp2_with fail;go_meet
   case rel=>exact⟨by rw[HQ.o],rfl⟩
 case rest=>
 obtain⟨rfl,rfl⟩:=hcut;refine xf ?_;intro w hw
 subst hw;clear Ou;have cD:=fun w=>aau s i1 hs asN w
 have G1:=wA (s.drop i1);have Jz:0 < (tw (s.drop i1)).length:=qs.2 H1.o;rw[e7]at G1;have hm1:=aay s i1;obtain⟨n1,gA⟩:∃ n1,n1=i1+(tw (s.drop i1)).length:=⟨_,rfl⟩
 rw[← gA]at cD rC hm1;have aia:n1≤s.length:=ae;have aib:1≤n1:=ae;clear gA G1 Jz H1;have cA:=fun w=>Ot s n1 hs w
 have N9:=Qh (show ∀ m,m=n1→eZ (bS s m).toNat=false from fun m e=>by rw[e];exact hm1);have hV:=rC.o;rw[aaz]at hV;have HV:=Qh hV;have bm:bS s n1=46→n1 < s.length:=fun h=>ah7 (by rw[h];decide)
 clear hV rC hm1;generalize bS s n1=c1 at *;go_wp2_with fail;refine aI (cD _) ?_
 rintro e w ⟨rfl,rfl⟩;go_wp2_with fail;refine aI (cA _) ?_
 rintro e w ⟨rfl,rfl⟩;clear cA cD;go_upto_if 27 with (fail)
 go_cut [1] (fun x ws=>∃ n:Nat,x=.int .i64 (n:Nat)∧n≤s.length∧1≤n∧V=kN s n∧eZ (bS s n).toNat=false∧ws=w)
 case first=>
  have hV:=HV.o;by_cases e1:c1=46
  ·rw[if_pos e1]at hV;have g1:=mL (k:=46) ah e1;have hlt:=bm e1;have cD:=fun w=>asL s ((n1:Int)+1) (n1+1) ae hs hlt w
   refine qW (wA (s.drop (n1+1))) ?_;intro G1;have hm1:=aay s (n1+1);rw[← kE]at hV;by_cases h0:tw (s.drop (n1+1))=[]
   ·rw[if_pos h0]at hV;have HN:=Qh hV;rw[h0]at cD;have ge:((n1+1:Nat):Int) == (n1:Int)+1:=Dc;clear HV hV hm1 G1 h0 N9 bm e1;exact OH (cD _)
   ·rw[if_neg h0]at hV;have hk:0 < (tw (s.drop (n1+1))).length:=qs.2 h0;generalize (tw (s.drop (n1+1))).length=k at *;have HN:=Qh hV;have HM:=Qh hm1;have ge:(((n1+1+k:Nat):Int) == (n1:Int)+1)=false:=ft;clear HV hV hm1 h0 N9 bm e1;go_wp2_with fail;refine aI (cD _) ?_
    rintro e w ⟨rfl,rfl⟩;go_wp2_with fail;go_meet
    case rel=>exact⟨n1+1+k,dV,ae,ae,HN.o,HM.o,rfl⟩
  ·rw[if_neg e1]at hV;have g1:=kR (k:=46) ah e1;have HN:=Qh hV;clear HV hV bm e1;go_wp2_with fail;go_meet
   case rel=>exact⟨n1,dV,aia,aib,HN.o,N9.o _ rfl,rfl⟩
 case rest=>
 clear HV N9 aia aib bm;obtain⟨n2,rfl,aic,aid,hV,Kh,rfl⟩:=hcut;refine xf ?_;intro w hw
 subst hw;have cA:=fun w=>Ot s n2 hs w
 have Oa:=Qh (show ∀ m,m=n2→eZ (bS s m).toNat=false from fun m e=>by rw[e];exact Kh);rw[aaA]at hV;have HV:=Qh hV;have bm:ju (bS s n2)=true→n2 < s.length:=fun h=>ah7 (by intro h2;rw[h2]at h;cases h)
 clear hV Kh;generalize bS s n2=c2 at *;go_upto_region 9 with fail
 go_cut [46] (fun x ws=>x=.bool (ju c2)∧ws=w)
 case first=>
  clear bm Oa HV;by_cases e1:c2=101
  ·have HB:=Qh (show ju c2=true by rw[e1];rfl);have g1:=mL (k:=101) ah e1;clear e1;go_wp2_with fail;refine aI (cA _) ?_
   rintro e w ⟨rfl,rfl⟩;go_wp2_with fail;go_meet
   case rel=>exact ur
  ·by_cases e2:c2=69
   ·have HB:=Qh (show ju c2=true by rw[e2];rfl);have g1:=kR (k:=101) ah e1;have g2:=mL (k:=69) ah e2;clear e1 e2;go_wp2_with fail;refine aI (cA _) ?_
    rintro e w ⟨rfl,rfl⟩;go_wp2_with fail;refine aI (cA _) ?_
    rintro e w ⟨rfl,rfl⟩;go_wp2_with fail;go_meet
    case rel=>exact ur
   ·have HB:=Qh (show ju c2=false by rw[rS];intro h;rcases (asO c2).1 h with h|h;exact e1 h;exact e2 h);have g1:=kR (k:=101) ah e1;have g2:=kR (k:=69) ah e2;clear e1 e2;go_wp2_with fail;refine aI (cA _) ?_
    rintro e w ⟨rfl,rfl⟩;go_wp2_with fail;refine aI (cA _) ?_
    rintro e w ⟨rfl,rfl⟩;go_wp2_with fail;go_meet
    case rel=>exact ur
 case rest=>
 obtain⟨rfl,rfl⟩:=hcut;refine xf ?_;intro w hw
 subst hw;generalize ju c2=b2 at *;clear cA;go_upto_if 46 with (fail)
 go_cut [1] (fun x ws=>∃ n:Nat,x=.int .i64 (n:Nat)∧n≤s.length∧1≤n∧V=kM s n∧eZ (bS s n).toNat=false∧ws=w)
 case first=>
  have hV:=HV.o;cases b2
  ·rw[if_neg aB]at hV;have HN:=Qh hV;clear HV hV bm;go_wp2_with fail;go_meet
   case rel=>exact⟨n2,dV,aic,aid,HN.o,Oa.o _ rfl,rfl⟩
  ·rw[if_pos rfl]at hV;have hlt:=bm rfl;have cV:=ah8 s (n2+1);obtain⟨iY,hg2⟩:=D7 (s.drop (n2+1));rw[e7]at hg2;obtain⟨i3,qA⟩:∃ i3,i3=n2+1+dA (s.drop (n2+1)):=⟨_,rfl⟩
   rw[← qA]at hV;have asP:i3≤s.length:=ae;rw[cV]at qA;have cA:=fun w=>Tz s ((n2:Int)+1) (n2+1) ae hs w
   have HN:=Qh hV;have Ov:=Qh qA;clear HV hV bm cV iY hg2 qA Oa;generalize bS s (n2+1)=c3 at *;go_upto_region 11 with fail
   go_cut [58] (fun x ws=>x=.bool (eW c3)∧ws=w)
   case first=>
    by_cases e1:c3=43
    ·have HB:=Qh (show eW c3=true by rw[e1];rfl);have g1:=mL (k:=43) ah e1;clear e1;go_wp2_with fail;refine aI (cA _) ?_
     rintro e w ⟨rfl,rfl⟩;go_wp2_with fail;go_meet
     case rel=>exact ur
    ·by_cases e2:c3=45
     ·have HB:=Qh (show eW c3=true by rw[e2];rfl);have g1:=kR (k:=43) ah e1;have g2:=mL (k:=45) ah e2;clear e1 e2;go_wp2_with fail;refine aI (cA _) ?_
      rintro e w ⟨rfl,rfl⟩;go_wp2_with fail;refine aI (cA _) ?_
      rintro e w ⟨rfl,rfl⟩;go_wp2_with fail;go_meet
      case rel=>exact ur
     ·have HB:=Qh (show eW c3=false by rw[rS];intro h;rcases (ah9 c3).1 h with h|h;exact e1 h;exact e2 h);have g1:=kR (k:=43) ah e1;have g2:=kR (k:=45) ah e2;clear e1 e2;go_wp2_with fail;refine aI (cA _) ?_
      rintro e w ⟨rfl,rfl⟩;go_wp2_with fail;refine aI (cA _) ?_
      rintro e w ⟨rfl,rfl⟩;go_wp2_with fail;go_meet
      case rel=>exact ur
   case rest=>
   obtain⟨rfl,rfl⟩:=hcut;refine xf ?_;intro w hw
   subst hw;generalize eW c3=b3 at *;clear cA;go_upto_if 58 with (fail)
   go_cut [1] (fun x ws=>x=.int .i64 (i3:Nat)∧ws=w)
   case first=>
    cases b3
    ·have HQ:=Qh (show(i3:Int)=(n2:Int)+1 by have:=Ov.o;simp at this;omega);clear Ov;go_wp2_with fail;go_meet
     case rel=>exact⟨by rw[HQ.o],rfl⟩
    ·have HQ:=Qh (show(i3:Int)=(n2:Int)+1+1 by have:=Ov.o;simp at this;omega);clear Ov;go_wp2_with fail;go_meet
     case rel=>exact⟨by rw[HQ.o],rfl⟩
   case rest=>
   obtain⟨rfl,rfl⟩:=hcut;refine xf ?_;intro w hw
   subst hw;clear Ov;have cD:=fun w=>aau s i3 hs asP w
   refine qW (wA (s.drop i3)) ?_;intro G1;have tE:=aay s i3;have hV:=HN.o;clear HN;by_cases h0:tw (s.drop i3)=[]
   ·rw[if_pos h0]at hV;have HN:=Qh hV;rw[h0]at cD;have ge:((i3:Int) == (i3:Int))=true:=(by rw[dZ]);clear hV tE G1 h0;exact OH (cD _)
   ·rw[if_neg h0]at hV;have hk:0 < (tw (s.drop i3)).length:=qs.2 h0;generalize (tw (s.drop i3)).length=k at *;have HN:=Qh hV;have HM:=Qh tE;have ge:(((i3+k:Nat):Int) == (i3:Int))=false:=ft;clear hV tE h0;go_wp2_with fail;refine aI (cD _) ?_
    rintro e w ⟨rfl,rfl⟩;go_wp2_with fail;go_meet
    case rel=>exact⟨i3+k,dV,ae,ae,HN.o,HM.o,rfl⟩
 case rest=>
 clear HV Oa aic aid bm;obtain⟨n3,rfl,avY,avZ,hV,tE,rfl⟩:=hcut;refine xf ?_;intro w hw
 subst hw;have cA:=fun w=>Ot s n3 hs w
 rw[Sy]at hV;generalize bS s n3=c4 at *;have cl:=fun w=>aas c4.toNat w
 have cd:=fun w=>Oq c4.toNat w
 rw[tE]at cd;cases hl:js c4.toNat
 ·rw[hl]at cl;by_cases e1:c4=46
  ·have HN:=Qh (show V=0 by rw[hV,if_pos];rw[e1];rfl);have g1:=Hj (k:=46) ah e1;clear hV hl e1 tE;go_wp2_with fail;refine aI (cA _) ?_
   rintro e w ⟨rfl,rfl⟩;go_wp2_with fail;refine aI (cl _) ?_
   rintro e w ⟨rfl,rfl⟩;exact OH (cd _)
  ·have HN:=Qh (show V=n3 by
    rw[hV,if_neg];unfold qU;rw[hl,Bool.false_or,dZ];exact e1)
   have g1:=Ty (k:=46) ah e1;clear hV hl e1 tE;go_wp2_with fail;refine aI (cA _) ?_
   rintro e w ⟨rfl,rfl⟩;go_wp2_with fail;refine aI (cl _) ?_
   rintro e w ⟨rfl,rfl⟩;go_wp2_with fail;refine aI (cd _) ?_
   rintro e w ⟨rfl,rfl⟩;go_wp2_with fail;go_ret2
   exact⟨_,_,rfl,rfl,fun _=>⟨fV,by rw[HN.o];omega⟩,fun h=>xq⟩
 ·rw[hl]at cl;have HN:=Qh (show V=0 by rw[hV,if_pos];unfold qU;rw[hl];rfl);clear hV hl tE;go_wp2_with fail;refine aI (cA _) ?_
  rintro e w ⟨rfl,rfl⟩;exact OH (cl _)
def qtN:Option Nat→Nat
 | none=>0
 | some k=>k+1
theorem asQ (s:List UInt8) (i:Nat) (hs:s.length≤1000000000) (hi:i < s.length) (w:World) :
  Calls prog 154 #[.string ⟨s.toArray⟩,.int .i64 (i:Nat)] w fun e w'=>e=.returned (.int .i64 (qtN (eQ false (i+1) (s.drop (i+1))):Nat))∧w' = w:=by
 obtain⟨V,hV⟩:∃ V,V=eQ false (i+1) (s.drop (i+1)):=⟨_,rfl⟩
 rw[← hV];have HV:=Qh hV;clear hV;go_enter func154,ntmps154
 go_wp2_with fail;go_loopw [5] (fun x wr=>∃ k:Nat,x=.int .i64 (k:Nat)∧k≤s.length+1∧V=eQ false k (s.drop k)∧wr=w) (fun x _=>s.length+1 - (intOf x).toNat)
 case atStart=>exact⟨i+1,dV,ae,HV.o,rfl⟩
 case round=>
  clear HV;obtain⟨k,rfl,hk,cY,rfl⟩:=hrel;by_cases hlt:(k:Int) < s.length
  ·have a8:k < s.length:=ae;have fZ:(⟨s.toArray⟩:ByteArray)[k]'a8 = s[k]:=rfl;have hd:=jq a8;rw[hd]at cY;generalize s[k]=c at *;have hstep:eQ false k (c::s.drop (k+1))=if c=92 then eQ true (k+1) (s.drop (k+1)) else if c=34 then some k else eQ false (k+1) (s.drop (k+1)):=rfl
   rw[hstep]at cY;by_cases e1:c=92
   ·rw[if_pos e1]at cY;have HN:=Qh (show V=eQ false (k+1+1) (s.drop (k+1+1))by
     rw[cY];rcases lI (k+1) s.length with h|h
     ·rw[jq h];rfl
     ·rw[rP h,rP ae,Ce,Ce])
    have g1:=mL (k:=92) ah e1;clear hd cY hstep e1;go_wp2_with fail;go_roundw;case rel=>exact⟨k+1+1,dV,ae,HN.o,trivial⟩
    case measure=>(simp[intOf]<;>omega)
   ·rw[if_neg e1]at cY;have g1:=kR (k:=92) ah e1;by_cases e2:c=34
    ·rw[if_pos e2]at cY;have HN:=Qh cY;have g2:=mL (k:=34) ah e2;clear hd cY hstep e1 e2;go_wp2_with fail;go_ret;exact⟨by rw[HN.o]<;>rfl,rfl⟩
    ·rw[if_neg e2]at cY;have HN:=Qh cY;have g2:=kR (k:=34) ah e2;clear hd cY hstep e1 e2;go_wp2_with fail;go_roundw;case rel=>exact⟨k+1,dV,ae,HN.o,trivial⟩
     case measure=>(simp[intOf]<;>omega)
  ·have HN:=Qh (show V=none by rw[cY,rP ae,Ce]);clear cY;go_wp2_with fail;go_ret;exact⟨by rw[HN.o]<;>rfl,rfl⟩
def yY:List UInt8:=[58,124,40,41,91,93,44,59]
theorem asR:∀ k,(h:k < yY.length)→oK yY[k].toNat=true:=ah
theorem asS (c:UInt8) (h:oK c.toNat=true):∃ k,∃ h:k < yY.length,yY[k]=c:=by
 unfold oK at h;simp only[nJ,dZ]at h;have un:∀ m:UInt8,c.toNat=m.toNat→c=m:=fun m e=>nK.1 e
 rcases h with ((((((h|h)|h)|h)|h)|h)|h)|h
 ·exact⟨0,ah,(un 58 h).symm⟩
 ·exact⟨1,ah,(un 124 h).symm⟩
 ·exact⟨2,ah,(un 40 h).symm⟩
 ·exact⟨3,ah,(un 41 h).symm⟩
 ·exact⟨4,ah,(un 91 h).symm⟩
 ·exact⟨5,ah,(un 93 h).symm⟩
 ·exact⟨6,ah,(un 44 h).symm⟩
 ·exact⟨7,ah,(un 59 h).symm⟩
theorem asT (l:List UInt8):jv l=(bS l 0 == 64 && (bS l 1 == 48 || bS l 1 == 49) && (bS l 2 == 43 || bS l 2 == 45)):=by
 rcases l with _|⟨a,_|⟨b,_|⟨c,t⟩⟩⟩
 ·rfl
 ·simp[jv,bS]
 ·simp[jv,bS]
 ·have e:∀ x y z:UInt8,((a::b::c::t).take 3 == [x,y,z])=(a == x && b == y && c == z):=fun x y z=>by
   rw[Fy];simp[and_assoc]
  unfold jv;rw[e,e,e,e];show _=(a == 64 && (b == 48 || b == 49) && (c == 43 || c == 45));generalize (a == 64)=b1;generalize (b == 48)=b2;generalize (b == 49)=b3;generalize (c == 43)=b4;generalize (c == 45)=b5;revert b1 b2 b3 b4 b5;decide
def Ow (s:List UInt8) (i:Nat):Nat:=if oK (bS s i).toNat=true then i+1 else if jv (s.drop i)=true then i+3 else 0
theorem asU (l:List UInt8) (c b d:UInt8) (hc:bS l 0=c) (hb:bS l 1=b) (hd:bS l 2=d) :
  (jv l=true∧c=64∧(b=48∨b=49∧b≠48)∧(d=43∨d=45∧d≠43))∨(jv l=false∧(c≠64∨(c=64∧b≠48∧b≠49)∨(c=64∧(b=48∨b=49∧b≠48)∧d≠43∧d≠45))):=by
 rw[asT,hc,hb,hd];by_cases h1:c=64
 ·by_cases h2:b=48
  ·by_cases h3:d=43
   ·left;subst h1 h2 h3;exact⟨ah,rfl,.inl rfl,.inl rfl⟩
   ·by_cases h4:d=45
    ·left;subst h1 h2 h4;exact⟨ah,rfl,.inl rfl,.inr ⟨rfl,h3⟩⟩
    ·right;exact⟨by simp[h3,h4],.inr (.inr ⟨h1,.inl h2,h3,h4⟩)⟩
  ·by_cases h5:b=49
   ·by_cases h3:d=43
    ·left;subst h1 h5 h3;exact⟨ah,rfl,.inr ⟨rfl,h2⟩,.inl rfl⟩
    ·by_cases h4:d=45
     ·left;subst h1 h5 h4;exact⟨ah,rfl,.inr ⟨rfl,h2⟩,.inr ⟨rfl,h3⟩⟩
     ·right;exact⟨by simp[h3,h4],.inr (.inr ⟨h1,.inr ⟨h5,h2⟩,h3,h4⟩)⟩
   ·right;exact⟨by simp[h2,h5],.inr (.inl ⟨h1,h2,h5⟩)⟩
 ·right;exact⟨by simp[h1],.inl h1⟩
theorem asV (s:List UInt8) (i:Nat) (hs:s.length≤1000000000) (hi:i < s.length) (w:World) :
  Calls prog 156 #[.string ⟨s.toArray⟩,.int .i64 (i:Nat)] w fun e w'=>e=.returned (.int .i64 (Ow s i:Nat))∧Below w.heap.size w w':=by
 obtain⟨V,hV⟩:∃ V,V=Ow s i:=⟨_,rfl⟩
 rw[← hV];unfold Ow at hV;have cB:=fun w=>Tz s ((i:Int)+1) (i+1) ae hs w
 have cC:=fun w=>Tz s ((i:Int)+2) (i+2) ae hs w
 have hoc:=asU (s.drop i) (bS s i) (bS s (i+1)) (bS s (i+2)) (Hl s i 0) (Hl s i 1) (Hl s i 2);have fZ:=KJ s i hi;have HV:=Qh hV;have TC:=Qh hoc;clear hV hoc;generalize bS s i=c at *;generalize bS s (i+1)=b at *;generalize bS s (i+2)=d at *;generalize jv (s.drop i)=o at *;go_enter func156,ntmps156
 go_wp2_with fail;go_loopw [6] (fun x wr=>∃ k:Nat,x=.int .i64 (k:Nat)∧k≤8∧(∀ j,(h:j < yY.length)→j < k→yY[j]≠c)∧Below w.heap.size w wr) (fun x _=>8 - (intOf x).toNat)
 case atStart=>exact⟨0,rfl,ah,fun j _ h=>absurd h (Nat.not_lt_zero _),aC _ _⟩
 case round=>
  obtain⟨k,rfl,hk,hno,hb⟩:=hrel;by_cases hlt:(k:Int) < 8
  ·have a8:k < yY.length:=(by show k < 8;omega);have DM:(⟨#[58,124,40,41,91,93,44,59]⟩:ByteArray)[k]'a8 = yY[k]:=rfl;by_cases e1:c=yY[k]
   ·have HN:=Qh (show V=i+1 by rw[HV.o,if_pos];rw[e1];exact asR k a8);have g1:((c.toNat:Int) == (((⟨#[58,124,40,41,91,93,44,59]⟩:ByteArray)[k]'a8).toNat:Int))=true:=(by rw[DM,e1,dZ]);clear TC HV hno e1 cB cC DM;go_wp2_with fail;go_quiet (fail)
    go_wp2_with fail;go_ret;exact⟨by rw[HN.o]<;>rfl,hb.trans ⟨rfl,rfl,rfl,af,fun _ _=>rfl⟩⟩
   ·have g1:((c.toNat:Int) == (((⟨#[58,124,40,41,91,93,44,59]⟩:ByteArray)[k]'a8).toNat:Int))=false:=by
     rw[DM,gT];intro h;exact e1 (nK.1 ae)
    have je:=Qh (show ∀ j,(h:j < yY.length)→j < k+1→yY[j]≠c from fun j h h2=>by
     by_cases hj:j < k
     ·exact hno j h hj
     ·obtain rfl:j=k:=by omega
      exact fun h3=>e1 h3.symm)
    clear hno e1 cB cC DM;go_wp2_with fail;go_quiet (fail)
    go_wp2_with fail;go_roundw;case rel=>exact⟨k+1,dV,ae,je.o,hb.trans ⟨rfl,rfl,rfl,af,fun _ _=>rfl⟩⟩
    case measure=>(simp[intOf]<;>omega)
  ·have hs0:oK c.toNat=false:=by
    rw[rS];intro h;obtain⟨j,hj,e⟩:=asS c h;exact hno j hj (by have:j < 8:=hj;omega) e
   have hV:=HV.o;rw[hs0,if_neg aB]at hV;have HB:=Qh hb;have ci:=fun w=>cB w
   have TD:=Qh hV;clear HV hs0 hno hV hb;rcases TC.o with ⟨ho,h1,h2,h3⟩|⟨ho,h1⟩
   ·have HN:=Qh (show V=i+3 by rw[TD.o,if_pos ho]);have g1:=mL (k:=64) ah h1;have g2:((b.toNat:Int) == 48)=true∨(((b.toNat:Int) == 48)=false∧((b.toNat:Int) == 49)=true):=by
     rcases h2 with h|⟨h,h'⟩
     ·exact .inl (mL (k:=48) ah h)
     ·exact .inr ⟨kR (k:=48) ah h',mL (k:=49) ah h⟩
    have g3:((d.toNat:Int) == 43)=true∨(((d.toNat:Int) == 43)=false∧((d.toNat:Int) == 45)=true):=by
     rcases h3 with h|⟨h,h'⟩
     ·exact .inl (mL (k:=43) ah h)
     ·exact .inr ⟨kR (k:=43) ah h',mL (k:=45) ah h⟩
    clear TC TD h1 h2 h3 ho ci;rcases g2 with g2|⟨g2,g2'⟩<;>rcases g3 with g3|⟨g3,g3'⟩
    all_goals
     go_wp2_with fail;refine aI (cB _) ?_
     exact ab1 (cC _)
   ·have HN:=Qh (show V=0 by rw[TD.o,if_neg (by rw[ho];simp)]);have gg:((c.toNat:Int) == 64)=false∨(((c.toNat:Int) == 64)=true∧((b.toNat:Int) == 48)=false∧((b.toNat:Int) == 49)=false)∨(((c.toNat:Int) == 64)=true∧((b.toNat:Int) == 48)=true∧((d.toNat:Int) == 43)=false∧((d.toNat:Int) == 45)=false)∨(((c.toNat:Int) == 64)=true∧((b.toNat:Int) == 48)=false∧((b.toNat:Int) == 49)=true∧((d.toNat:Int) == 43)=false∧((d.toNat:Int) == 45)=false):=by
     rcases h1 with h|⟨h,h2,h3⟩|⟨h,h2,h3,h4⟩
     ·exact .inl (kR (k:=64) ah h)
     ·exact .inr (.inl ⟨mL (k:=64) ah h,kR (k:=48) ah h2,kR (k:=49) ah h3⟩)
     ·rcases h2 with h2|⟨h2,h5⟩
      ·exact .inr (.inr (.inl ⟨mL (k:=64) ah h,mL (k:=48) ah h2,kR (k:=43) ah h3,kR (k:=45) ah h4⟩))
      ·exact .inr (.inr (.inr ⟨mL (k:=64) ah h,kR (k:=48) ah h5,mL (k:=49) ah h2,kR (k:=43) ah h3,kR (k:=45) ah h4⟩))
    clear TC TD h1 ho ci;rcases gg with g1|⟨g1,g2,g3⟩|⟨g1,g2,g3,g4⟩|⟨g1,g2,g3,g4,g5⟩
    all_goals
     go_wp2_with fail;refine aI (cB _) ?_
     exact ab1 (cC _)
end Go.Proofs.YtfflljgnpfldfaaGreatDoor
