/-
  The reference's Parse: contract.
-/
import Derived.Test.YtfflljgnpfldfaaGreatDoorParT
set_option linter.all false
set_option maxHeartbeats 128000000
set_option maxRecDepth 100000
namespace Go.Proofs.YtfflljgnpfldfaaGreatDoor
open Go.Proofs.Tryz
open Go.RowKit
def XR (R:Option (Bool×List UInt8×Int)):Value:=
 match R with
 | none=>.tuple #[.agg #[.int .i64 0,.int .i64 0],.int .i64 8]
 | some (neg,d,p)=>yv (nU neg (cX d) p)
def Gx (s:List UInt8):Value:=
 if 96 < s.length then .tuple #[.agg #[.int .i64 0,.int .i64 0],.int .i64 3] else XR (nd s)
theorem afX {a b i j:Nat} (ha:(aT a).length≤i) (hb:(aT b).length≤j):(aT (a*b)).length≤i+j:=by
 rw[nT]at *;rw[Nat.pow_add];exact Nat.mul_lt_mul'' ha hb
def n0 (n:Nat):Prop:=True∧(0 < n→0 < (aT n).length)
theorem ape (n:Nat):n0 n:=⟨trivial,fun h=>by
 rcases qu (aT n).length with h0|h0
 ·have:=(nT n 0).1 ae;simp at this;omega
 ·exact h0⟩
theorem afY {B g:Nat} {w w':World} (h:Below B w w') (hg:B≤g) (a b:Value):Below B w ((w'.setCell ⟨g,0,none⟩ a).setCell ⟨g,1,none⟩ b):=(h.setCell hg a).setCell hg b
theorem afZ (r:Option (Int×Int)):∃ x y k:Int,yv r=.tuple #[.agg #[.int .i64 x,.int .i64 y],.int .i64 k]:=by
 cases r with
 | none=>exact⟨0,0,9,rfl⟩
 | some p=>exact⟨p.1,p.2,0,rfl⟩
theorem af0 {n k:Nat} (h:n < 10 ^ k) (hk:k≤300):(aT n).length≤32:=by
 refine(nT _ 32).2 (iH h (bQ (xr ah hk) ?_));decide +kernel
theorem apf {s b r:List UInt8} (h:qf s=some (b,r)):r.length≤s.length:=by
 unfold qf at h;split at h
 ·cases h;simp
 ·rename_i c t
  split at h
  ·split at h
   ·cases h
   ·cases h
    have:=JU t;rw[dz];omega
  ·cases h;exact af
theorem apg {s p q:List UInt8} {down:Bool} (h:sD s=some (down,p,q)):p.length≤s.length∧px p:=by
 unfold sD at h;split at h
 ·cases h;exact⟨aB,fun c hc=>absurd hc aB⟩
 ·rename_i c t
  split at h
  ·split at h
   ·cases h
   ·cases h
    have h1:=JU (eF t).2;have h2:=XT t;exact⟨by rw[dz];omega,XU _⟩
  ·cases h;exact⟨aB,fun c hc=>absurd hc aB⟩
theorem af1 {s a b p:List UInt8} {neg down:Bool} (h:Ai s=some (neg,down,a,b,p)):nd s=some (neg,a++b,sG down (sF p) - (b.length:Int))∧px p∧p.length≤s.length:=by
 constructor
 ·rw[XV,h];rfl
 ·unfold Ai at h;split at h
  ·cases h
  ·cases hp:qf (dw (eF s).2)with
   | none=>rw[hp]at h;cases h
   | some br=>
    obtain⟨b',r⟩:=br;rw[hp]at h;simp only at h;cases he:sD r with
    | none=>rw[he]at h;cases h
    | some q=>
     obtain⟨au2,pw,z⟩:=q;rw[he]at h;simp only at h;split at h
     ·simp only[Option.some.injEq,Prod.mk.injEq]at h;obtain⟨_,_,_,_,rfl⟩:=h;obtain⟨h1,h2⟩:=apg he;have h3:=apf hp;have h4:=JU (eF s).2;have h5:=XT s;exact⟨h2,ae⟩
     ·cases h
theorem aph (s:List UInt8) (hs:s.length≤9223372036854775807) (w:World) :
  Calls prog 180 #[.string ⟨s.toArray⟩] w fun e w'=>e=.returned (Gx s)∧Below w.heap.size w w':=by
 obtain⟨F,hF⟩:∃ F,F=Gx s:=⟨_,rfl⟩
 rw[← hF];have HF:=Qh hF;clear hF;obtain⟨tr,hsz,bh⟩:=ri w #[.int .i64 0,.int .i64 0] 61;have TR:=Qh tr;have bE:=Qh bh;clear tr bh;by_cases h96:(96:Int) < s.length
 ·have HN:=Qh (show F=.tuple #[.agg #[.int .i64 0,.int .i64 0],.int .i64 3]by rw[HF.o];unfold Gx;rw[if_pos ae]);clear HF;go_enter func180,ntmps180
  go_wp2_with fail;generalize w.alloc (.cells #[.int .i64 0,.int .i64 0] 61)=W at *;obtain⟨r0,r1,r2,r3⟩:=TR.o.two;exact bB (v:=.tuple #[.agg #[.int .i64 0,.int .i64 0],.int .i64 3]) Vd rfl ⟨fV,bE.o⟩
 have cr:=ao7 s ae;have vD:=Qh (show F=XR (nd s)by rw[HF.o];unfold Gx;rw[if_neg ae]);have Sc:=Qh (show Ai s=none→nd s=none from fun h=>by rw[XV,h];rfl);have Ak:=Qh (fun neg down a b p (h:Ai s=some (neg,down,a,b,p))=>And.intro (af1 h) (af2 (af1 h).1));clear HF;generalize Ai s=R at *;generalize nd s=RL at *;go_enter func180,ntmps180
 go_wp2_with fail;generalize w.alloc (.cells #[.int .i64 0,.int .i64 0] 61)=W at *;refine aI (cr _) ?_
 rintro e w1 ⟨neg,down,a,b,p,ok,rfl,hb1,dp⟩;clear cr;refine Uy (TR.o.keep hb1 af) ?_;intro lf bX hs1;clear hb1 TR bE hsz;obtain⟨tn,hsz,bh⟩:=ri w1 #[.bool neg,.bool down,.string ⟨a.toArray⟩,.string ⟨b.toArray⟩,.string ⟨p.toArray⟩] 314;have TN:=Qh tn;have pz:=Qh (lf.o.keep bh af);have aM:=Qh (show Below w.heap.size w (w1.alloc (.cells #[.bool neg,.bool down,.string ⟨a.toArray⟩,.string ⟨b.toArray⟩,.string ⟨p.toArray⟩] 314))from aH bX.o bh (by have:=hs1.o;omega));clear tn bh lf bX;have ky:=Qh dp;clear dp;cases ok
 ·have HN:=Qh (show F=.tuple #[.agg #[.int .i64 0,.int .i64 0],.int .i64 8]by
   rw[vD.o];have h:=ky.o;cases R with
   | none=>rw[Sc.o rfl];rfl
   | some x=>exact absurd h.1 ah)
  obtain⟨r0,r1,r2,r3⟩:=pz.o.two;go_wp2_with fail;generalize w1.alloc (.cells #[.bool neg,.bool down,.string ⟨a.toArray⟩,.string ⟨b.toArray⟩,.string ⟨p.toArray⟩] 314)=W2 at *;exact bB (v:=.tuple #[.agg #[.int .i64 0,.int .i64 0],.int .i64 8]) Vd rfl ⟨fV,(aM.o.setCell aB _).setCell aB _⟩
 ·have hR:R=some (neg,down,a,b,p):=by
   have h:=ky.o;cases R with
   | none=>exact absurd (show true=false from h) ah
   | some x=>rw[h.2]
  obtain⟨⟨hrl,hpd,hpl⟩,jn,fY,fL,o9⟩:=Ak.o neg down a b p hR;refine aY (show F=yv (nU neg (cX (a++b)) (sG down (sF p) - (b.length:Int)))by rw[vD.o,hrl];rfl) jn hpd ?_;intro pA qm HPD;have Gy:a.length+b.length≤96:=(by rw[ey]at fY;omega);clear vD Ak Sc ky hR jn hpd hrl fL o9 fY;have hst:=Sd a b;have hl3:¬ 9223372036854775807 < a.length+b.length:=ae;have hl4:a.length < 9223372036854775807:=ae;have WA:b.length < 9223372036854775807:=ae;go_upto_region 9 with fail
  generalize w1.alloc (.cells #[.bool neg,.bool down,.string ⟨a.toArray⟩,.string ⟨b.toArray⟩,.string ⟨p.toArray⟩] 314)=W2 at *;have Gr:=Qh (show w1.heap.size≠w.heap.size by have:=hs1.o;omega);generalize hA:w1.heap.size=A at *;have hll:(a++b).length≤96:=(by rw[ey];exact Gy);clear hA hst hl3 hl4 WA;generalize a++b=L at *;have Nq:∀ w,Calls prog 206 #[.int .u64 10] w (z8 w 10):=fun w=>JI 10 ah w
  go_loopw [7,8] (fun v x ws=>∃ k:Nat,x=.int .i64 (k:Nat)∧k≤L.length∧lQ ws v (cX (L.take k))∧ai ws w.heap.size #[.int .i64 0,.int .i64 0]∧ai ws A #[.bool neg,.bool down,.string ⟨a.toArray⟩,.string ⟨b.toArray⟩,.string ⟨p.toArray⟩]∧Below w.heap.size w ws) (fun _ x _=>L.length - (intOf x).toNat)
  case atStart=>exact⟨0,rfl,bV _,ae6 _,pz.o,TN.o,aM.o⟩
  case round=>
   clear pz TN aM hsz;obtain⟨k,rfl,hk,⟨a0,c0,rfl,gW⟩,tr,tn,hb⟩:=hrel;refine fx gW tr tn hb ?_;clear gW tr tn hb;intro Em TR TN HB;have JW:cX (L.take k) < 10 ^ 96:=by
    have h:=Nr (l:=L.take k) (fun c hc=>qm.o c (IE hc));exact iH h (xr ah Fe)
   by_cases hlt:(k:Int) < L.length
   ·have a8:k < L.length:=ae;have fZ:(⟨L.toArray⟩:ByteArray)[k]'a8 = L[k]:=rfl;have hc:=(nj L[k]).1 (qm.o _ (gU a8));have El:=Qh (show cX (L.take (k+1))=10*cX (L.take k)+(L[k].toNat - 48)by rw[Bo a8,XW]);have BF:=af0 JW ah;generalize L[k]=c at *;obtain⟨q,hqd⟩:∃ q,q=c.toNat - 48:=⟨_,rfl⟩
    rw[← hqd]at El;have hq:(c.toNat:Int) - 48=(q:Int):=ae;have Sg:q≤9:=ae;have cfq:∀ w,Calls prog 206 #[.int .u64 (q:Nat)] w (z8 w q):=fun w=>JI q ae w
    have af4:(aT (cX (L.take k)*10)).length≤100:=bQ (afX BF (Ns (n:=10) ah)) ah;have WQ:=Qh (show IntKind.u8.wrap (q:Int)=(q:Int)∧IntKind.u64.wrap (q:Int)=(q:Int)by unfold IntKind.wrap;simp[IntKind.bits,IntKind.signed];omega);clear hqd hc JW;generalize cX (L.take k)=m at *;go_upto_region 11 with fail
    refine xt (S:=(fun (w':World)=>Below wr.heap.size wr w')) aj (aC _ _).drew (fun hHeld=>?_);refine hT 0 ?_;refine aL ?_
    refine hT 3 ?_;refine aL ?_
    refine hT 4 ?_;refine aL ?_
    refine hT 5 ?_;refine aL ?_
    refine hT 6 ?_;refine aL ?_
    refine hT 7 ?_;refine aL ?_
    refine jS 1 rfl aj (fun K hK=>?_);go_simp;refine aI (Nq _) ?_
    rintro e w3 ⟨_,rfl,⟨a3,c3,rfl,hs3⟩,hf3,bO⟩;refine hK.o _ _ ?_ (fun hHeld=>?_)
    ·exact Pe
    clear hK K;refine aL ?_
    refine jS 2 rfl aj (fun K hK=>?_);go_simp;refine aI (XC m 10 a0 a3 c0 c3 ae (by have:=Ns (n:=10) ah;omega) _ (Em.o.keep hHeld af) hs3) ?_
    rintro e w4 ⟨_,rfl,⟨a4,c4,rfl,yx⟩,XX,bO⟩;refine hK.o _ _ ?_ (fun hHeld=>?_)
    ·exact Pe
    clear hK K;refine aL ?_
    refine jS 8 rfl aj (fun K hK=>?_);go_simp;rw[WQ.o.1,WQ.o.2];refine aI (cfq _) ?_
    rintro e w5 ⟨_,rfl,⟨a5,c5,rfl,hs5⟩,hf5,bO⟩;have hb5:=bO;refine hK.o _ _ ?_ (fun hHeld=>?_)
    ·exact Pe
    clear hK K;refine E4 ?_;intro K hK
    go_simp;refine aI (Xo (m*10) q a4 a5 c4 c5 ae (by have:=Ns (n:=q) ae;omega) _ (yx.keep hb5 af) hs5) ?_
    rintro e w6 ⟨v6,rfl,hn6,hf6,bO⟩;refine hK.o _ _ ?_ (fun hHeld=>?_)
    ·exact Pe
    clear hK K;refine aL ?_
    refine hT 10 ?_;refine wS ?_
    have HH:=Qh hHeld;have HN6:=Qh hn6;clear hHeld hn6 hf3 XX hf5 hf6 hs3 yx hs5 bO hb5 Nq cfq;go_wp2_with fail;go_roundw;case rel=>exact⟨k+1,dV,ae,by rw[El.o,e9 10];exact HN6.o,TR.o.keep HH.o af,TN.o.keep HH.o af,aH HB.o HH.o af⟩
    case measure=>exact nC
   ·obtain rfl:k=L.length:=by omega
    rw[vN]at Em JW ⊢;clear Nq;have hpw:sF p≤1000:=af5 p 0 ah;have XY:=apb p ae HPD.o;have Ca:n0 (cX L):=ape _;generalize cX L=n at *;clear qm HPD;rcases qu n with hn|hn
    ·subst hn;have XZ:(aT 0).length=0:=(by rw[uU];rfl);have HN:=Qh (show F=yv (some (0,1))by rw[pA.o];unfold nU;rw[Nat.zero_mul,Xz]);obtain⟨r0,r1,r2,r3⟩:=TR.o.two;clear pA Ca XY JW;go_wp2_with fail;exact bB (v:=.tuple #[.agg #[.int .i64 0,.int .i64 1],.int .i64 0]) Vd rfl ⟨zq,(HB.o.setCell aB _).setCell aB _⟩
    ·have XZ:(((aT n).length:Int) == 0)=false:=(by rw[gT];have:=Ca.2 hn;omega);have fY:(aT n).length≤32:=af0 JW ah;obtain⟨x0,x1,x2,x3,x4,_⟩:=TN.o.five;clear Ca;generalize sF p=pw at *;obtain⟨sp,hsp⟩:∃ sp,sp=sG down pw:=⟨_,rfl⟩
     rw[← hsp]at pA;have au3:-1000≤sp:=(by rw[hsp];unfold sG;split<;>omega);have au4:sp≤1000:=(by rw[hsp];unfold sG;split<;>omega);have Gq:=Qh hsp;clear hsp;go_wp2_with fail;refine aI (XY _) ?_
     rintro e w3 ⟨rfl,rfl⟩;clear XY;go_upto_if 51 with (fail)
     go_cut [9] (fun x ws=>x=.int .i64 sp∧ws=w3)
     case first=>
      cases down
      ·go_wp2_with fail;go_meet
       case rel=>exact⟨by rw[Gq.o];rfl,rfl⟩
      ·go_wp2_with fail;go_meet
       case rel=>exact⟨by rw[Gq.o];rfl,rfl⟩
     case rest=>
      obtain⟨rfl,rfl⟩:=hcut;refine xf ?_;intro wr hwr
      subst hwr;clear Gq;obtain⟨ex,hex⟩:∃ ex,ex=sp - (b.length:Int):=⟨_,rfl⟩
      rw[← hex]at pA;have apj:sp - (b.length:Int)=ex:=hex.symm;have hx1:ex≤1000:=ae;have hx2:-1100≤ex:=ae;clear hex;by_cases bm:0≤ex
      ·by_cases apk:100 < ex
       ·have HN:=Qh (show F=yv none by rw[pA.o,apc hn apk]);obtain⟨r0,r1,r2,r3⟩:=TR.o.two;clear pA;exact abt
       obtain⟨k,rfl⟩:∃ k:Nat,ex=(k:Int):=⟨ex.toNat,ae⟩
       have um:=Qh (show F=yv (ew neg (n*10 ^ k) 1)by
        rw[pA.o];unfold nU;rw[show(k:Int).toNat=k by omega,show(-(k:Int)).toNat=0 by omega,vQ])
       have Sh:∀ w,Calls prog 206 #[.int .u64 1] w (z8 w 1):=fun w=>JI 1 ah w
       obtain⟨V,hV⟩:∃ V,V=yv (ew neg (n*10 ^ k) 1):=⟨_,rfl⟩
       obtain⟨X,Y,kk,uM⟩:=afZ (ew neg (n*10 ^ k) 1);have HV:=Qh (show F=.tuple #[.agg #[.int .i64 X,.int .i64 Y],.int .i64 kk]by rw[um.o,uM]);have X0:=Qh uM;clear uM hV V pA um;go_upto_region 21 with fail
       refine aby ?_;intro hHeld;refine hT 0 ?_;refine aL ?_
       refine hT 1 ?_;refine aL ?_
       refine hT 2 ?_;refine aL ?_
       refine hT 3 ?_;refine aL ?_
       refine jS 4 rfl aj (fun K hK=>?_);go_simp;refine aI (af6 k ae _) ?_
       rintro e w4 ⟨_,rfl,⟨a4,c4,rfl,yx⟩,XX,bO⟩;have hs0:=(Em.o.keep (aC wr.heap.size wr).drew af).keep bO af;refine hK.o _ _ ?_ (fun hHeld=>?_)
       ·exact Hr
       clear hK K;refine aL ?_
       refine jS 5 rfl aj (fun K hK=>?_);go_simp;refine aI (XC n (10 ^ k) a0 a4 c0 c4 ae (by have:=Si (j:=k) ae;omega) _ hs0 yx) ?_
       rintro e w5 ⟨_,rfl,⟨a5,c5,rfl,hs5⟩,hf5,bO⟩;refine hK.o _ _ ?_ (fun hHeld=>?_)
       ·exact Hr
       clear hK K;refine aL ?_
       refine jS 6 rfl aj (fun K hK=>?_);go_simp;refine aI (Sh _) ?_
       rintro e w6 ⟨_,rfl,⟨a6,c6,rfl,X4⟩,hf6,bO⟩;have bR:=bO;refine hK.o _ _ ?_ (fun hHeld=>?_)
       ·exact Hr
       clear hK K;refine aL ?_
       refine hT 7 ?_;refine aL ?_
       refine jS 8 rfl aj (fun K hK=>?_);go_simp;refine aI (afi neg (n*10 ^ k) 1 ah (bQ (afX fY (Si (j:=k) ae)) ah) (by have:=Ns (n:=1) ah;omega) a5 a6 c5 c6 _ (hs5.keep bR af) X4) ?_
       rw[X0.o];rintro e w7 ⟨rfl,bO⟩;refine hK.o _ _ ?_ (fun hHeld=>?_)
       ·exact Hr
       clear hK K;refine aL ?_
       refine hT 9 ?_;refine aL ?_
       refine hT 10 ?_;refine aL ?_
       refine jS 11 rfl aj (fun K hK=>?_);obtain⟨q0,q1,hq⟩:=hHeld.2.2;obtain⟨z0,z1,z2,z3⟩:=hq.two;refine aY ((hq.set 0 (.int .i64 X)).set 1 (.int .i64 Y)) hHeld.1 (afY hHeld.2.1 (Nat.le_refl w.heap.size) (.int .i64 X) (.int .i64 Y)) ?_;intro HQ HC vA;go_simp;refine hK.o _ _ ?_ (fun FC=>?_)
       ·exact⟨by have h1:=HC.o;have h2:=Gr.o;go_simp,vA.o,_,_,HQ.o⟩
       clear hK K hHeld z0 z1 z2 z3 hq;refine aL ?_
       refine hT 12 ?_;refine wS ?_
       obtain⟨z0,z1,z2,z3⟩:=HQ.o.two;exact abv
      ·by_cases apl:ex < -200
       ·have HN:=Qh (show F=yv none by rw[pA.o,apd hn JW apl]);obtain⟨r0,r1,r2,r3⟩:=TR.o.two;clear pA;exact abt
       obtain⟨k,hk2⟩:∃ k:Nat,-ex=(k:Int):=⟨(-ex).toNat,ae⟩
       have WK:=Qh (show IntKind.i64.wrap (k:Int)=(k:Int)by unfold IntKind.wrap;simp[IntKind.bits,IntKind.signed];omega);have um:=Qh (show F=yv (ew neg n (10 ^ k))by
        rw[pA.o];unfold nU;rw[show ex.toNat=0 by omega,show(-ex).toNat=k by omega,vQ,Nat.mul_one])
       obtain⟨V,hV⟩:∃ V,V=yv (ew neg n (10 ^ k)):=⟨_,rfl⟩
       obtain⟨X,Y,kk,uM⟩:=afZ (ew neg n (10 ^ k));have HV:=Qh (show F=.tuple #[.agg #[.int .i64 X,.int .i64 Y],.int .i64 kk]by rw[um.o,uM]);have X0:=Qh uM;clear uM hV V pA um;go_upto_region 24 with fail
       refine aby ?_;intro hHeld;refine hT 0 ?_;refine aL ?_
       refine hT 1 ?_;refine aL ?_
       refine hT 2 ?_;refine aL ?_
       refine hT 3 ?_;refine aL ?_
       refine hT 4 ?_;refine aL ?_
       refine jS 5 rfl aj (fun K hK=>?_);go_simp;rw[WK.o];refine aI (af6 k ae _) ?_
       rintro e w4 ⟨_,rfl,⟨a4,c4,rfl,yx⟩,XX,bO⟩;have hs0:=(Em.o.keep (aC wr.heap.size wr).drew af).keep bO af;refine hK.o _ _ ?_ (fun hHeld=>?_)
       ·exact Hr
       clear hK K;refine aL ?_
       refine hT 6 ?_;refine Lm ?_;intro K hK
       go_simp;refine aI (afi neg n (10 ^ k) (tQ k) ae (by have:=Si (j:=k) ae;omega) a0 a4 c0 c4 _ hs0 yx) ?_
       rw[X0.o];rintro e w7 ⟨rfl,bO⟩;refine hK.o _ _ ?_ (fun hHeld=>?_)
       ·exact Hr
       clear hK K;refine aL ?_
       refine hT 8 ?_;refine aL ?_
       refine hT 9 ?_;refine aL ?_
       refine jS 10 rfl aj (fun K hK=>?_);obtain⟨q0,q1,hq⟩:=hHeld.2.2;obtain⟨z0,z1,z2,z3⟩:=hq.two;refine aY ((hq.set 0 (.int .i64 X)).set 1 (.int .i64 Y)) hHeld.1 (afY hHeld.2.1 (Nat.le_refl w.heap.size) (.int .i64 X) (.int .i64 Y)) ?_;intro HQ HC vA;go_simp;refine hK.o _ _ ?_ (fun FC=>?_)
       ·exact⟨by have h1:=HC.o;have h2:=Gr.o;go_simp,vA.o,_,_,HQ.o⟩
       clear hK K hHeld z0 z1 z2 z3 hq;refine aL ?_
       refine hT 11 ?_;refine wS ?_
       obtain⟨z0,z1,z2,z3⟩:=HQ.o.two;exact abv
end Go.Proofs.YtfflljgnpfldfaaGreatDoor
