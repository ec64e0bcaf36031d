/-
  rat's Parse: contract.
-/
import Derived.Test.YtfflljgnpfldfaaGreatDoorParS
set_option linter.all false
set_option maxHeartbeats 128000000
set_option maxRecDepth 100000
namespace Go.Proofs.YtfflljgnpfldfaaGreatDoor
open Go.Proofs.Tryz
open Go.RowKit
def apZ (R:Option (Bool×List UInt8×Int)) (neg:Bool) (d:List UInt8) (p:Int) (b:Bool):Prop:=
 match R with
 | none=>b=false
 | some (n',d',p')=>b=true∧neg=n'∧d=d'∧p=p'
theorem ap0:∀ (q:Nat) (h:q < 10) (w:World),(convert 5 9 (.int .u8 (48+(q:Int)))).run prog w=.ok (.string ⟨#[fW q]⟩) w
 | 0,_,w=>aj
 | 1,_,w=>aj
 | 2,_,w=>aj
 | 3,_,w=>aj
 | 4,_,w=>aj
 | 5,_,w=>aj
 | 6,_,w=>aj
 | 7,_,w=>aj
 | 8,_,w=>aj
 | 9,_,w=>aj
 | n+10,h,_=>absurd h ae
theorem ap1 {m:Int} (h:48≤m∧m≤57):(m == 43)=false∧(m == 45)=false∧(m == 46)=false∧(m == 101)=false∧(m == 69)=false∧¬ m < 48∧¬ 57 < m:=by
 simp only[gT];omega
theorem jy {m k:Int} (h:m≠k):(m == k)=false:=by rw[gT];exact h
theorem ap2 (s:List UInt8) (hlen:s.length≤1000) (w:World) :
  Calls prog 217 #[.string ⟨s.toArray⟩] w fun e w'=>∃ (neg:Bool) (d:List UInt8) (p:Int) (b:Bool),e=.returned (.tuple #[.agg #[.bool neg,.string ⟨d.toArray⟩,.int .i64 p],.bool b])∧Below w.heap.size w w'∧apZ (nd s) neg d p b:=by
 obtain⟨R,hR⟩:∃ R,R=nd s:=⟨_,rfl⟩
 rw[← hR];have HR:=Qh hR;clear hR;obtain⟨tr,tx,hsz,bh⟩:=rj w #[.bool false,.string ⟨#[]⟩,.int .i64 0] #[.bool false,.string ⟨#[]⟩,.int .i64 0] 329 329;refine fx tr tx bh hsz ?_;clear tr tx bh hsz;intro TR TX bE gD;go_enter func217,ntmps217
 go_wp2_with fail;go_step3
 go_wp2_with fail;go_step3
 go_wp2_with fail;generalize (w.alloc (.cells #[.bool false,.string ⟨#[]⟩,.int .i64 0] 329)).alloc (.cells #[.bool false,.string ⟨#[]⟩,.int .i64 0] 329)=W at *;go_loopg [5,6,7,8,9] s.length (fun g a b p d x ws=>∃ (i pt back pow:Nat) (neg down:Bool) (ds:List UInt8),i≤s.length∧g=s.length - i∧a=.int .i64 (pt:Nat)∧b=.int .i64 (back:Nat)∧p=.int .i64 (pow:Nat)∧d=.bool down∧x=.int .i64 (i:Nat)∧pt≤6∧back≤i∧pow≤1000∧ds.length≤i∧im ⟨pt,neg,ds,back,pow,down⟩ (s.drop i)=R∧ai ws w.heap.size #[.bool false,.string ⟨#[]⟩,.int .i64 0]∧ai ws (w.heap.size+1) #[.bool neg,.string ⟨ds.toArray⟩,.int .i64 0]∧Below w.heap.size w ws)
 case atStart=>exact⟨0,0,0,0,false,false,[],bV _,rfl,rfl,rfl,rfl,rfl,rfl,ah,ah,ah,ah,HR.o.symm,TR.o,TX.o,bE.o⟩
 case round=>
  obtain⟨i,pt,back,pow,neg,down,ds,hi,hg0,rfl,rfl,rfl,rfl,rfl,Sp,hback,CQ,Dz,hrun,tr,tx,bh⟩:=hrel;obtain⟨wq,hwq⟩:∃ x,x=wr:=⟨_,rfl⟩
  subst hwq;obtain⟨g0,ap3⟩:∃ x,x=gk:=⟨_,rfl⟩
  subst ap3;have Hg0:=Qh hg0;have Sr:=Qh hrun;clear HR TR TX bE gD hg0 hrun;refine aY tr tx bh ?_;intro TR TX HB;obtain⟨r0,r1,r2,r3,r4,r5⟩:=tr.three;obtain⟨x0,x1,x2,x3,x4,x5⟩:=tx.three;clear tr tx bh;by_cases hlt:(i:Int) < s.length
  ·have a8:i < s.length:=ae;have fZ:(⟨s.toArray⟩:ByteArray)[i]'a8 = s[i]:=rfl;have agu:=Qh (jq a8);have fO:=Qh (show(lW ⟨pt,neg,ds,back,pow,down⟩ s[i] (s.drop (i+1))).bind (fun y=>im y (s.drop (i+1)))=R by rw[← Sr.o,agu.o,Ap]);generalize s[i]=c at *;clear agu Sr;by_cases cV:eW c=true
   ·have hc2:c=43∨c=45:=(by unfold eW at cV;simpa using cV);rcases hc2 with Aa|Aa
    ·subst Aa;have hm:((43:UInt8).toNat:Int)=43:=rfl;by_cases ia:pt=0
     ·subst ia;by_cases Dt:i+1=s.length
      ·have e1:((i:Int)+1 == (s.length:Int))=true:=Dc;have Ca:s.drop (i+1)=[]:=(by rw[Dt,qZ]);exact aaR (show none=R by rw[← fO.o,Ca];rfl)
      ·refine abT ?_;intro e1 hlt2 DM zj htn;generalize s[i+1]=d at *;have qm:=nj d;generalize hdm:(d.toNat:Int)=dm at *;by_cases l1:dm < 48
       ·exact abg
       by_cases l2:57 < dm
       ·exact abg
       have xK:fq d=true:=qm.2 ae;have HN:=Qh (show im ⟨1,false,ds,back,pow,down⟩ (s.drop (i+1))=R by
        have h:=fO.o;rw[zj.o,show lW ⟨0,neg,ds,back,pow,down⟩ 43 (d::s.drop (i+1+1))=some ⟨1,false,ds,back,pow,down⟩by (unfold lW headD;simp[xK,eW])]at h;rw[zj.o];exact h)
       clear fO xK;go_wp2_with fail;go_roundg (s.length - (i+1))
       case rel=>exact⟨i+1,1,back,pow,false,down,ds,ae,rfl,rfl,dV,dV,rfl,dV,ah,ae,CQ,ae,HN.o,TR.o.other Ie _,TX.o.set 0 _,HB.o.setCell aB _⟩
       case measure=>exact ux
     ·have h0b:((pt:Int) == 0)=false:=jy ae;by_cases OT:pt=4
      ·subst OT;have HN:=Qh (show im ⟨5,neg,ds,back,pow,false⟩ (s.drop (i+1))=R from fO.o);clear fO;go_wp2_with fail;go_roundg (s.length - (i+1))
       case rel=>exact⟨i+1,5,back,pow,neg,false,ds,ae,rfl,rfl,dV,dV,rfl,dV,ah,ae,CQ,ae,HN.o,TR.o,TX.o,HB.o⟩
       case measure=>exact ux
      ·exact abo
    ·subst Aa;have hm:((45:UInt8).toNat:Int)=45:=rfl;by_cases ia:pt=0
     ·subst ia;by_cases Dt:i+1=s.length
      ·have e1:((i:Int)+1 == (s.length:Int))=true:=Dc;have Ca:s.drop (i+1)=[]:=(by rw[Dt,qZ]);exact aaS (show none=R by rw[← fO.o,Ca];rfl)
      ·refine abT ?_;intro e1 hlt2 DM zj htn;generalize s[i+1]=d at *;have qm:=nj d;generalize hdm:(d.toNat:Int)=dm at *;by_cases l1:dm < 48
       ·exact abh
       by_cases l2:57 < dm
       ·exact abh
       have xK:fq d=true:=qm.2 ae;have HN:=Qh (show im ⟨1,true,ds,back,pow,down⟩ (s.drop (i+1))=R by
        have h:=fO.o;rw[zj.o,show lW ⟨0,neg,ds,back,pow,down⟩ 45 (d::s.drop (i+1+1))=some ⟨1,true,ds,back,pow,down⟩by (unfold lW headD;simp[xK,eW])]at h;rw[zj.o];exact h)
       clear fO xK;go_wp2_with fail;go_roundg (s.length - (i+1))
       case rel=>exact⟨i+1,1,back,pow,true,down,ds,ae,rfl,rfl,dV,dV,rfl,dV,ah,ae,CQ,ae,HN.o,TR.o.other Ie _,TX.o.set 0 _,HB.o.setCell aB _⟩
       case measure=>exact ux
     ·have h0b:((pt:Int) == 0)=false:=jy ae;by_cases OT:pt=4
      ·subst OT;have HN:=Qh (show im ⟨5,neg,ds,back,pow,true⟩ (s.drop (i+1))=R from fO.o);clear fO;go_wp2_with fail;go_roundg (s.length - (i+1))
       case rel=>exact⟨i+1,5,back,pow,neg,true,ds,ae,rfl,rfl,dV,dV,rfl,dV,ah,ae,CQ,ae,HN.o,TR.o,TX.o,HB.o⟩
       case measure=>exact ux
      ·exact abo
   ·by_cases Nw:c=46
    ·subst Nw;have hm:((46:UInt8).toNat:Int)=46:=rfl;by_cases h1:pt=1
     ·subst h1;have HN:=Qh (show im ⟨2,neg,ds,back,pow,down⟩ (s.drop (i+1))=R from fO.o);clear fO;go_wp2_with fail;go_roundg (s.length - (i+1))
      case rel=>exact⟨i+1,2,back,pow,neg,down,ds,ae,rfl,rfl,dV,dV,rfl,dV,ah,ae,CQ,ae,HN.o,TR.o,TX.o,HB.o⟩
      case measure=>exact ux
     ·have h1b:((pt:Int) == 1)=false:=jy ae;have HN:=Qh (show none=R by rw[← fO.o,zi ah (fun h=>absurd h ah) (fun _=>h1) (fun h=>absurd h ah)];rfl);clear fO;exact KQ
    ·by_cases yE:ju c=true
     ·have hc2:c=101∨c=69:=(by unfold ju at yE;simpa using yE);rcases hc2 with Aa|Aa
      ·subst Aa;have hm:((101:UInt8).toNat:Int)=101:=rfl;by_cases h1:pt=1
       ·subst h1;have HN:=Qh (show im ⟨4,neg,ds,back,pow,down⟩ (s.drop (i+1))=R from fO.o);clear fO;go_wp2_with fail;go_roundg (s.length - (i+1))
        case rel=>exact OB
        case measure=>exact ux
       ·have h1b:((pt:Int) == 1)=false:=jy ae;by_cases h3:pt=3
        ·subst h3;have HN:=Qh (show im ⟨4,neg,ds,back,pow,down⟩ (s.drop (i+1))=R from fO.o);clear fO;go_wp2_with fail;go_roundg (s.length - (i+1))
         case rel=>exact OB
         case measure=>exact ux
        ·exact aa2
      ·subst Aa;have hm:((69:UInt8).toNat:Int)=69:=rfl;by_cases h1:pt=1
       ·subst h1;have HN:=Qh (show im ⟨4,neg,ds,back,pow,down⟩ (s.drop (i+1))=R from fO.o);clear fO;go_wp2_with fail;go_roundg (s.length - (i+1))
        case rel=>exact OB
        case measure=>exact ux
       ·have h1b:((pt:Int) == 1)=false:=jy ae;by_cases h3:pt=3
        ·subst h3;have HN:=Qh (show im ⟨4,neg,ds,back,pow,down⟩ (s.drop (i+1))=R from fO.o);clear fO;go_wp2_with fail;go_roundg (s.length - (i+1))
         case rel=>exact OB
         case measure=>exact ux
        ·exact aa2
     ·by_cases jn:fq c=true
      ·have Ad:=(nj c).1 jn;obtain⟨q,hq⟩:∃ q,q=c.toNat - 48:=⟨_,rfl⟩
       have Ys:=agi jn;rw[← hq]at Ys;have hm:(c.toNat:Int)=48+(q:Int):=ae;have Sg:q < 10:=ae;have hcv:=fun w=>ap0 q Sg w
       rw[Ys]at hcv;have HST:=Qh (GG (x:=⟨pt,neg,ds,back,pow,down⟩) (t:=s.drop (i+1)) jn);rw[← hq]at HST;rw[← hm]at hcv;obtain⟨n1,n2,n3,n4,n5,n6,n7⟩:=ap1 (m:=(c.toNat:Int)) ae;have hqq:(c.toNat:Int) - 48=(q:Int):=ae;clear Ad cV Nw yE jn Ys hq hm;by_cases h4:(4:Int)≤pt
       ·have HN:=Qh (show im ⟨6,neg,ds,back,min (10*pow+q) 1000,down⟩ (s.drop (i+1))=R by
         have h:=fO.o;rw[HST.o,if_pos (show 4≤pt by omega)]at h;exact h)
        clear fO HST hcv;go_wp2_with fail;go_roundg (s.length - (i+1))
        case rel=>exact⟨i+1,6,back,min (10*pow+q) 1000,neg,down,ds,ae,rfl,rfl,dV,(by show Value.int _ _=Value.int _ _;congr 1;omega),rfl,dV,ah,ae,ae,ae,HN.o,TR.o,TX.o,HB.o⟩
        case measure=>exact ux
       ·have hst:=Sd ds [c];have hl3:¬ 9223372036854775807 < ds.length+1:=ae;have hl4:ds.length < 9223372036854775807:=ae;by_cases h2:pt=2
        ·subst h2;have HN:=Qh (show im ⟨3,neg,ds++[c],back+1,pow,down⟩ (s.drop (i+1))=R by
          have h:=fO.o;rw[HST.o,if_neg (show ¬ 4≤2 by decide),if_pos (.inl rfl)]at h;exact h)
         clear fO HST;go_wp2_with fail;go_roundg (s.length - (i+1))
         case rel=>exact aa4
         case measure=>exact ux
        by_cases h3:pt=3
        ·subst h3;have HN:=Qh (show im ⟨3,neg,ds++[c],back+1,pow,down⟩ (s.drop (i+1))=R by
          have h:=fO.o;rw[HST.o,if_neg (show ¬ 4≤3 by decide),if_pos (.inr rfl)]at h;exact h)
         clear fO HST;go_wp2_with fail;go_roundg (s.length - (i+1))
         case rel=>exact aa4
         case measure=>exact ux
        have h2b:((pt:Int) == 2)=false:=jy ae;have h3b:((pt:Int) == 3)=false:=jy ae;have HN:=Qh (show im ⟨1,neg,ds++[c],back,pow,down⟩ (s.drop (i+1))=R by
         have h:=fO.o;rw[HST.o,if_neg (show ¬ 4≤pt by omega),if_neg (show ¬ (pt=2∨pt=3)by omega)]at h;exact h)
        clear fO HST;go_wp2_with fail;go_roundg (s.length - (i+1))
        case rel=>exact⟨i+1,1,back,pow,neg,down,(ds++[c]),ae,rfl,rfl,dV,dV,rfl,dV,ah,ae,CQ,cO,HN.o,TR.o.other Ie _,TX.o.set 1 _,HB.o.setCell aB _⟩
        case measure=>exact ux
      ·have qm:=nj c;have ap4:eW c=false:=(by simpa using cV);have ap5:ju c=false:=(by simpa using yE);have q1:((c.toNat:Int) == 43)=false:=jy (fun h=>cV (by rw[show c=43 from nK.1 (by show c.toNat=43;omega)];rfl));have q2:((c.toNat:Int) == 45)=false:=jy (fun h=>cV (by rw[show c=45 from nK.1 (by show c.toNat=45;omega)];rfl));have q3:((c.toNat:Int) == 46)=false:=jy (fun h=>Nw (nK.1 (by show c.toNat=46;omega)));have q4:((c.toNat:Int) == 101)=false:=jy (fun h=>yE (by rw[show c=101 from nK.1 (by show c.toNat=101;omega)];rfl));have q5:((c.toNat:Int) == 69)=false:=jy (fun h=>yE (by rw[show c=69 from nK.1 (by show c.toNat=69;omega)];rfl));have hst:lW ⟨pt,neg,ds,back,pow,down⟩ c (s.drop (i+1))=none:=zi (by simpa using jn) (fun h=>absurd h cV) (fun h=>absurd h Nw) (fun h=>absurd h yE);have hcl:(c.toNat:Int) < 48∨57 < (c.toNat:Int):=by
        rcases lI c.toNat 48 with h|h
        ·left;omega
        ·right;apply Decidable.byContradiction;intro h2;exact jn (qm.2 ae)
       clear qm cV yE Nw jn ap4 ap5;rcases hcl with l1|l1
       ·have HN:=Qh (show none=R by rw[← fO.o,hst];rfl);clear fO hst;exact KQ
       ·have l0:¬ (c.toNat:Int) < 48:=ae;have HN:=Qh (show none=R by rw[← fO.o,hst];rfl);clear fO hst;exact KQ
  ·obtain rfl:i=s.length:=by omega
   have HN:=Qh (show Bh ⟨pt,neg,ds,back,pow,down⟩=R by rw[← Sr.o,qZ];rfl);clear Sr;have wy:(back:Int)≤1000:=ae;cases down
   ·by_cases h1:pt=1
    ·subst h1;exact T8
    by_cases h3:pt=3
    ·subst h3;exact T8
    by_cases h6:pt=6
    ·subst h6;exact T8
    have n1:((pt:Int) == 1)=false:=jy ae;have n3:((pt:Int) == 3)=false:=jy ae;have n6:((pt:Int) == 6)=false:=jy ae;go_wp2_with fail;try rw[Exit.noGoto_ret]
    exact bB (v:=.tuple #[.agg #[.bool neg,.string ⟨ds.toArray⟩,.int .i64 ((pow:Int) - (back:Int))],.bool false]) (by simp[results,results217,go_sem,r0,r1,r2]) rfl ⟨neg,ds,(pow:Int) - (back:Int),false,rfl,(((HB.o.setCell aB _).setCell aB _).setCell aB _).setCell aB _,acs⟩
   ·by_cases h1:pt=1
    ·subst h1;exact T6
    by_cases h3:pt=3
    ·subst h3;exact T6
    by_cases h6:pt=6
    ·subst h6;exact T6
    have n1:((pt:Int) == 1)=false:=jy ae;have n3:((pt:Int) == 3)=false:=jy ae;have n6:((pt:Int) == 6)=false:=jy ae;go_wp2_with fail;try rw[Exit.noGoto_ret]
    exact bB (v:=.tuple #[.agg #[.bool neg,.string ⟨ds.toArray⟩,.int .i64 (-(pow:Int) - (back:Int))],.bool false]) (by simp[results,results217,go_sem,r0,r1,r2]) rfl ⟨neg,ds,-(pow:Int) - (back:Int),false,rfl,(((HB.o.setCell aB _).setCell aB _).setCell aB _).setCell aB _,acs⟩
theorem apG {V:Nat} (hV:0 < V):Lib.decDigits (V*10)=Lib.decDigits V++[48]:=by
 obtain⟨k,h1,h2,h3⟩:=xX V;rw[QU (k+1) (V*10) (by rw[e8];omega) (.inr (by
  rw[e8];rcases h3 with rfl|h3
  ·rw[vQ];omega
  ·omega)),BV,Nat.mul_div_cancel _ ah,h1]
 congr 2
 unfold fW;rw[Nat.mul_mod_left];rfl
theorem Yk {V:Nat} (hV:0 < V) (e:Nat):Lib.decDigits (V*10 ^ e)=Lib.decDigits V++List.replicate e 48:=by
 induction e with
 | zero=>simp
 | succ e ih=>
  rw[e8,← lH,apG (Nat.mul_pos hV (tQ e)),ih,o6,← List.replicate_succ']
theorem afU (V:Nat) (hV:0 < V):∃ v z,V=v*10 ^ z∧v % 10≠0∧0 < v:=by
 induction V using Nat.strongRecOn with
 | _ V ih=>
  by_cases h:V % 10=0
  ·obtain⟨v,z,h1,h2,h3⟩:=ih (V / 10) (Nat.div_lt_self hV ah) ae;exact⟨v,z+1,by rw[e8,← lH,← h1];omega,h2,h3⟩
  ·exact⟨V,0,aB,h,hV⟩
theorem apH (z:Nat) (l:List UInt8):(List.replicate z 48++l).dropWhile (fun c:UInt8=>c == 48)=l.dropWhile (fun c=>c == 48):=by
 induction z with
 | zero=>simp
 | succ z ih=>rw[List.replicate_succ,uD,Fq,if_pos aB,ih]
theorem apI {v:Nat} (z:Nat) (hv:0 < v) (hz:v % 10≠0):Lib.trimRightB (Lib.decDigits (v*10 ^ z)) 48=Lib.decDigits v:=by
 obtain⟨P,hP⟩:=X6 v;have hn:fW v≠48:=by
  intro h;have h2:=X7 v;rw[h]at h2;have Gz:UInt8.toNat 48=48:=rfl;omega
 unfold Lib.trimRightB;rw[Yk hv,List.reverse_append,List.reverse_replicate];show(List.dropWhile (fun c=>c == 48) _).reverse=_;rw[apH,hP,List.reverse_append];show(List.dropWhile (fun c=>c == 48) (fW v::P.reverse)).reverse=_;rw[Fq,if_neg Iu,List.reverse_cons,List.reverse_reverse]
theorem apJ (e:Nat):Lib.repeatL [48] e=List.replicate e 48:=by
 induction e with
 | zero=>rfl
 | succ e ih=>rw[List.replicate_succ,← ih];rfl
theorem apK {d:List UInt8} (hd:px d) (h:cX d=0):d.dropWhile (fun c=>c == 48)=[]:=by
 cases he:d.dropWhile (fun c=>c == 48)with
 | nil=>rfl
 | cons c l=>
  have h1:=apA d;rw[he,h]at h1;have nR:px (c::l):=fun x hx=>hd x (by
   have:x∈d.dropWhile (fun c=>c == 48):=by rw[he];exact hx
   exact(List.dropWhile_sublist _).subset this)
  have hc:c≠48:=by
   intro h2;have h3:=List.head_dropWhile_not (p:=fun c:UInt8=>c == 48) (l:=d) (by rw[he];simp);simp only[he,List.head_cons]at h3;rw[h2]at h3;simp at h3
  have:=(agk nR hc).2;rw[h1]at this;have:=tQ l.length;omega
theorem ago {d:List UInt8} (hd:px d) (h:0 < cX d):d.dropWhile (fun c=>c == 48)=Lib.decDigits (cX d):=by
 have:=agm d.length (cX d) h (Nr hd)
 rwa [agj hd]at this
theorem XU (l:List UInt8):px (tw l):=by
 intro c hc;unfold tw at hc
 induction l with
 | nil=>simp at hc
 | cons a t ih=>
  rw[sY]at hc;split at hc
  ·rename_i h
   rcases nL.1 hc with rfl|h2
   ·exact h
   ·exact ih h2
  ·simp at hc
theorem JU (l:List UInt8):(tw l).length+(dw l).length=l.length:=by
 have:=jA List.length (List.takeWhile_append_dropWhile (p:=fq) (l:=l));rw[ey]at this;exact this
theorem XT (s:List UInt8):(eF s).2.length≤s.length:=by
 unfold eF;split
 ·simp
 ·split<;>simp
theorem apL {s b r:List UInt8} (h:qf s=some (b,r)):px b∧b.length≤s.length:=by
 unfold qf at h;split at h
 ·cases h;exact⟨fun c hc=>absurd hc aB,aB⟩
 ·rename_i c t
  split at h
  ·split at h
   ·cases h
   ·cases h
    have:=JU t;exact⟨XU t,by rw[dz];omega⟩
  ·cases h;exact⟨fun c hc=>absurd hc aB,aB⟩
theorem af5 (l:List UInt8):∀ n,n≤1000→Ek n l≤1000:=by
 induction l with
 | nil=>intro n h;exact h
 | cons c l ih=>intro n h;rw[Yl];exact ih _ (Nat.min_le_right _ _)
theorem af2 {s d:List UInt8} {neg:Bool} {p:Int} (h:nd s=some (neg,d,p)):px d∧d.length≤s.length∧-(1000+(s.length:Int))≤p∧p≤1000:=by
 rw[XV]at h;unfold Ai at h;split at h
 ·cases h
 ·rename_i h1
  cases hp:qf (dw (eF s).2)with
  | none=>rw[hp]at h;cases h
  | some br=>
   obtain⟨b,r⟩:=br;rw[hp]at h;simp only at h;cases he:sD r with
   | none=>rw[he]at h;cases h
   | some q=>
    obtain⟨down,pw,z⟩:=q;rw[he]at h;simp only at h;split at h
    ·simp only[Option.map_some,Option.some.injEq,Prod.mk.injEq]at h;obtain⟨h2,rfl,rfl⟩:=h;obtain⟨f1,f2⟩:=apL hp;have f3:=JU (eF s).2;have f4:=XT s;have f5:sF pw≤1000:=af5 pw 0 ah;refine⟨fun c hc=>(uG.1 hc).elim (XU _ c) (f1 c),Lv,?_,?_⟩
     ·unfold sG;split<;>omega
     ·unfold sG;split<;>omega
    ·cases h
def Ym (R:Option (Bool×List UInt8×Int)):Value:=
 match R with
 | none=>.tuple #[.agg #[.int .i64 0,.int .i64 0],dE 8]
 | some (neg,d,p)=>kT (nU neg (cX d) p)
def GD (s:List UInt8):Value:=
 if 96 < s.length then .tuple #[.agg #[.int .i64 0,.int .i64 0],dE 3] else Ym (nd s)
theorem ap6 (s:List UInt8) (hs:s.length≤9223372036854775807) (w:World) :
  Calls prog 193 #[.string ⟨s.toArray⟩] w fun e w'=>e=.returned (GD s)∧Below w.heap.size w w':=by
 obtain⟨F,hF⟩:∃ F,F=GD s:=⟨_,rfl⟩
 rw[← hF];have HF:=Qh hF;clear hF;obtain⟨tr,hsz,bh⟩:=ri w #[.int .i64 0,.int .i64 0] 61;have TR:=Qh tr;have bE:=Qh bh;clear tr bh;by_cases h96:(96:Int) < s.length
 ·have HN:=Qh (show F=.tuple #[.agg #[.int .i64 0,.int .i64 0],dE 3]by rw[HF.o];unfold GD;rw[if_pos ae]);clear HF;go_enter func193,ntmps193
  go_wp2_with fail;generalize w.alloc (.cells #[.int .i64 0,.int .i64 0] 61)=W at *;obtain⟨r0,r1,r2,r3⟩:=TR.o.two;exact bB (v:=.tuple #[.agg #[.int .i64 0,.int .i64 0],dE 3]) Va rfl ⟨fV,bE.o⟩
 have cr:=ap2 s ae;have vD:=Qh (show F=Ym (nd s)by rw[HF.o];unfold GD;rw[if_neg ae]);have Ak:=Qh (fun neg d p (h:nd s=some (neg,d,p))=>af2 h);clear HF;generalize nd s=R at *;go_enter func193,ntmps193
 go_wp2_with fail;generalize w.alloc (.cells #[.int .i64 0,.int .i64 0] 61)=W at *;refine aI (cr _) ?_
 rintro e w1 ⟨neg,d,p,b,rfl,hb1,dp⟩;clear cr;refine Uy (TR.o.keep hb1 af) ?_;intro lf bX hs1;clear hb1 TR bE hsz;obtain⟨tn,hsz,bh⟩:=ri w1 #[.bool neg,.string ⟨d.toArray⟩,.int .i64 p] 329;have TN:=Qh tn;have pz:=Qh (lf.o.keep bh af);have aM:=Qh (show Below w.heap.size w (w1.alloc (.cells #[.bool neg,.string ⟨d.toArray⟩,.int .i64 p] 329))from aH bX.o bh (by have:=hs1.o;omega));clear tn bh lf bX;have ky:=Qh dp;clear dp;cases b
 ·have HN:=Qh (show F=.tuple #[.agg #[.int .i64 0,.int .i64 0],dE 8]by
   rw[vD.o];have h:=ky.o;cases R with
   | none=>rfl
   | some x=>obtain⟨n',d',p'⟩:=x;exact absurd h.1 ah)
  obtain⟨r0,r1,r2,r3⟩:=pz.o.two;go_wp2_with fail;generalize w1.alloc (.cells #[.bool neg,.string ⟨d.toArray⟩,.int .i64 p] 329)=W2 at *;exact bB (v:=.tuple #[.agg #[.int .i64 0,.int .i64 0],dE 8]) Va rfl ⟨fV,(aM.o.setCell aB _).setCell aB _⟩
 ·have hR:R=some (neg,d,p):=by
   have h:=ky.o;cases R with
   | none=>exact absurd (show true=false from h) ah
   | some x=>obtain⟨n',d',p'⟩:=x;obtain⟨_,rfl,rfl,rfl⟩:=h;rfl
  have pA:=Qh (show F=kT (nU neg (cX d) p)by rw[vD.o,hR];rfl);obtain⟨jn,fY,fL,o9⟩:=Ak.o neg d p hR;have qm:=Qh jn;clear vD Ak ky hR jn;go_wp2_with fail;generalize w1.alloc (.cells #[.bool neg,.string ⟨d.toArray⟩,.int .i64 p] 329)=W2 at *;have Gr:=Qh (show w1.heap.size≠w.heap.size by have:=hs1.o;omega);generalize hA:w1.heap.size=A at *;clear hA;obtain⟨r0,r1,r2,r3⟩:=pz.o.two;obtain⟨a0,a1,a2,a3,a4,a5⟩:=TN.o.three;rcases qu (cX d)with hV|hV
  ·have HN:=Qh (show F=kT (some (0,1))by rw[pA.o,hV];unfold nU;rw[Nat.zero_mul,Xz]);have ct:∀ w:World,Calls prog 218 #[.string ⟨d.toArray⟩,.string ⟨#[48]⟩] w fun e w'=>e=.returned (.string ⟨#[]⟩)∧w' = w:=fun w=>by
    have h:=Tryz.strings_TrimLeft_one ⟨d.toArray⟩ 48 ah w;rw[show Lib.trimLeftB (⟨d.toArray⟩:ByteArray).data.toList 48=[]from apK qm.o hV]at h;exact h
   clear hV pA;refine aI (ct _) ?_
   rintro e w3 ⟨rfl,rfl⟩;clear ct;go_wp2_with fail;exact bB (v:=.tuple #[.agg #[.int .i64 0,.int .i64 1],.nilIface]) (by simp[results,results193,go_sem,r0,r1]) rfl ⟨zq,(aM.o.setCell aB _).setCell aB _⟩
  ·obtain⟨v,z,Ss,hz,hv⟩:=afU (cX d) hV;have ct:∀ w:World,Calls prog 218 #[.string ⟨d.toArray⟩,.string ⟨#[48]⟩] w fun e w'=>e=.returned (.string ⟨(Lib.decDigits (v*10 ^ z)).toArray⟩)∧w' = w:=fun w=>by
    have h:=Tryz.strings_TrimLeft_one ⟨d.toArray⟩ 48 ah w;rw[show Lib.trimLeftB (⟨d.toArray⟩:ByteArray).data.toList 48=Lib.decDigits (v*10 ^ z)from Ss ▸ ago qm.o hV]at h;exact h
   have kJ:(Lib.decDigits (v*10 ^ z)).length=(Lib.decDigits v).length+z:=(by rw[Yk hv,ey,rQ]);have hl2:(Lib.decDigits (v*10 ^ z)).length≤96:=by
    have h2:=ago qm.o hV;have h3:=(List.dropWhile_sublist (fun c:UInt8=>c == 48) (l:=d)).length_le;rw[h2,Ss]at h3;omega
   have cu:∀ w:World,Calls prog 219 #[.string ⟨(Lib.decDigits (v*10 ^ z)).toArray⟩,.string ⟨#[48]⟩] w fun e w'=>e=.returned (.string ⟨(Lib.decDigits v).toArray⟩)∧w' = w:=fun w=>by
    have h:=Tryz.strings_TrimRight_one ⟨(Lib.decDigits (v*10 ^ z)).toArray⟩ 48 ah w (by show(Lib.decDigits (v*10 ^ z)).length≤_;omega);rw[show Lib.trimRightB (⟨(Lib.decDigits (v*10 ^ z)).toArray⟩:ByteArray).data.toList 48=Lib.decDigits v from apI z hv hz]at h;exact h
   have J1:=Qh (show F=kT (nU neg v (p+z))by rw[pA.o,Ss,afV]);have hne:Lib.decDigits (v*10 ^ z)≠[]:=(by intro h;rw[h]at kJ;have h3:=Al v;have:Lib.decDigits v=[]:=pS.1 (by simp at kJ;omega);rw[this]at h3;simp[cX,pB]at h3;omega);have HZ:=Qh (And.intro hv hz);have hl0:0 < (Lib.decDigits v).length:=by
    obtain⟨P,hP⟩:=X6 v;rw[hP];simp
   clear pA Ss hz hV qm;generalize mH:Lib.decDigits (v*10 ^ z)=L1 at *;clear mH;have cs:=fun (Su:p+(z:Int) < 0)=>apS neg v (-(p+(z:Int))).toNat hv HZ.o.2 ae ae
   generalize hL2:Lib.decDigits v=L2 at *;have Jb:=Qh hL2;clear hL2;have hlz:(L1.length:Int) - (L2.length:Int)=(z:Int):=ae;have HLZ:=Qh kJ;clear kJ;obtain⟨ex,hex⟩:∃ ex:Int,ex=p+(z:Int):=⟨_,rfl⟩
   rw[← hex]at J1 cs;have apj:p+(z:Int)=ex:=hex.symm;have hx1:ex≤1100:=ae;have hx2:-1100≤ex:=ae;clear hex hv;have QD:L1.isEmpty=false:=by cases L1 with|nil=>exact absurd rfl hne|cons=>rfl
   have qJ:=Qh hne;clear hne;refine aI (ct _) ?_
   rintro e w3 ⟨rfl,rfl⟩;clear ct;go_wp2_with fail;refine aI (cu _) ?_
   rintro e w4 ⟨rfl,rfl⟩;clear cu;by_cases bm:0≤ex
   ·obtain⟨e,rfl⟩:∃ e:Nat,ex=(e:Int):=⟨ex.toNat,ae⟩
    clear cs;have um:=Qh (show F=kT (ew neg (v*10 ^ e) 1)by
     rw[J1.o];unfold nU;rw[show(e:Int).toNat=e by omega,show(-(e:Int)).toNat=0 by omega,vQ])
    have J5:=Yk HZ.o.1 e;rw[Jb.o]at J5;by_cases hbig:(19:Int) < (L2.length:Int)+(e:Int)
    ·have HN:=Qh (show F=kT none by
      rw[um.o,afT];have:=agb (V:=v*10 ^ e) (by rw[J5,ey,rQ];omega);omega)
     clear J5 J1 um;go_wp2_with fail;exact bB (v:=.tuple #[.agg #[.int .i64 0,.int .i64 0],dE 9]) Va rfl ⟨zq,((aM.o.setCell Lu _).setCell aB _).setCell aB _⟩
    ·have ava:=dec_lt (V:=v*10 ^ e) (by rw[J5,ey,rQ];omega);have cr:∀ w:World,Calls prog 220 #[.string ⟨#[48]⟩,.int .i64 (e:Nat)] w fun e' w'=>e' = .returned (.string ⟨(List.replicate e 48).toArray⟩)∧Below w.heap.size w w':=fun w=>by
      have h:=Tryz.strings_Repeat ⟨#[48]⟩ e w ae (by show 1*e≤_;omega);rw[show Lib.repeatL (⟨#[48]⟩:ByteArray).data.toList e=List.replicate e 48 from apJ e]at h;exact h
     have hzl:(List.replicate e (48:UInt8)).length=e:=rQ;have hnp:0 < v*10 ^ e:=Nat.mul_pos HZ.o.1 (tQ e);have cp:=Tryz.strconv_ParseUint_10_at64_ok ⟨(L2++List.replicate e 48).toArray⟩ (by show(L2++List.replicate e 48).length≤_;rw[ey,hzl];omega) (v*10 ^ e) (by
      show Lib.parseUintB 64 (L2++List.replicate e 48)=_;rw[← J5];have:=Yg (Nu (v*10 ^ e)) (by intro h;have h3:=Al (v*10 ^ e);rw[h]at h3;simp only[cX,pB,List.foldl_nil]at h3;omega) (by rw[Al];omega)
      rwa [Al]at this)
     have cf:=Yi neg (v*10 ^ e) 1 ae ah;rw[BA (show v*10 ^ e < 18446744073709551616 by omega),qY (show v*10 ^ e < 18446744073709551616 by omega),← agn]at cf;obtain⟨G,hG⟩:∃ G,G=ew neg (v*10 ^ e) 1:=⟨_,rfl⟩
     rw[← hG]at cf um;clear hG J1 J5 hnp;generalize v*10 ^ e=n at *;have cg:∀ w:World,Calls prog 221 #[.bool neg,.int .u64 0,.int .u64 (n:Nat),.int .u64 0,.int .u64 1] w fun e w'=>e=.returned (kT G)∧Below w.heap.size w w':=cf
     clear cf;have hst:=Sd L2 (List.replicate e 48);generalize List.replicate e (48:UInt8)=Z at *;have hl3:¬ 9223372036854775807 < L2.length+Z.length:=ae;have hl4:L2.length < 9223372036854775807:=ae;have WA:Z.length < 9223372036854775807:=ae;have HZL:=Qh hzl;clear hzl;have TN3:=Qh (show ai (w4.setCell ⟨A,2,none⟩ (.int .i64 (e:Nat))) A #[.bool neg,.string ⟨d.toArray⟩,.int .i64 (e:Nat)]from TN.o.set 2 (.int .i64 (e:Nat)));have J0:=Qh (pz.o.other (a:=⟨A,2,none⟩) Gr.o (.int .i64 (e:Nat)));have bT:=Qh (show Below w.heap.size w (w4.setCell ⟨A,2,none⟩ (.int .i64 (e:Nat)))from aM.o.setCell Lu _);have hs3:=Qh (show w.heap.size≤(w4.setCell ⟨A,2,none⟩ (.int .i64 (e:Nat))).heap.size from bT.o.size);go_wp2_with fail;generalize w4.setCell ⟨A,2,none⟩ (.int .i64 (e:Nat))=W3 at *;clear r0 r1 r2 r3 a0 a1 a2 a3 a4 a5;refine aI (cr _) ?_
     rintro e' w5 ⟨rfl,hb5⟩;clear cr;refine aY (TN3.o.keep hb5 af) (J0.o.keep hb5 af) (show Below w.heap.size w w5 from aH bT.o hb5 af) ?_;intro TN5 TR5 ir;have hs5:=Qh ir.o.size;clear hb5;go_wp2_with fail;refine aI (cp _) ?_
     rintro e' w6 ⟨rfl,bR⟩;clear cp;replace bR:=Yb bR;refine aY (TN5.o.keep bR af) (TR5.o.keep bR af) (show Below w.heap.size w w6 from aH ir.o bR af) ?_;intro TN6 TR6 mg;have X4:=Qh mg.o.size;clear bR;obtain⟨a0,a1,a2,a3,a4,a5⟩:=TN6.o.three;go_wp2_with fail;refine aI (cg _) ?_
     rintro e' w7 ⟨rfl,BN⟩;clear cg;have Yt:=Qh (TR6.o.keep BN af);have nG:=Qh (show Below w.heap.size w w7 from aH mg.o BN af);clear BN a0 a1 a2 a3 a4 a5;obtain⟨r0,r1,r2,r3⟩:=Yt.o.two;rcases G with _|⟨x,y⟩
     ·exact abf
     ·exact abj
   ·obtain⟨k,hk⟩:∃ k:Nat,-ex=(k:Int):=⟨(-ex).toNat,ae⟩
    have hkn:(-ex).toNat=k:=ae;have um:=Qh (show F=kT (ew neg v (10 ^ k))by
     rw[J1.o];unfold nU;rw[show ex.toNat=0 by omega,hkn,vQ,Nat.mul_one])
    have cg:=cs ae;rw[hkn]at cg;obtain⟨G,hG⟩:∃ G,G=ew neg v (10 ^ k):=⟨_,rfl⟩
    rw[← hG]at cg um;clear hG J1 hkn cs;have TN3:=Qh (show ai (w4.setCell ⟨A,2,none⟩ (.int .i64 ex)) A #[.bool neg,.string ⟨d.toArray⟩,.int .i64 ex]from TN.o.set 2 (.int .i64 ex));have J0:=Qh (pz.o.other (a:=⟨A,2,none⟩) Gr.o (.int .i64 ex));have bT:=Qh (show Below w.heap.size w (w4.setCell ⟨A,2,none⟩ (.int .i64 ex))from aM.o.setCell Lu _);have hs3:=Qh (show w.heap.size≤(w4.setCell ⟨A,2,none⟩ (.int .i64 ex)).heap.size from bT.o.size);go_wp2_with fail;generalize w4.setCell ⟨A,2,none⟩ (.int .i64 ex)=W3 at *;clear r0 r1 r2 r3 a0 a1 a2 a3 a4 a5;refine aI (cg _) ?_
    rintro e' w7 ⟨rfl,BN⟩;clear cg;have Yt:=Qh (J0.o.keep BN af);have nG:=Qh (show Below w.heap.size w w7 from aH bT.o BN af);clear BN;obtain⟨r0,r1,r2,r3⟩:=Yt.o.two;rcases G with _|⟨x,y⟩
    ·exact abf
    ·exact abj
end Go.Proofs.YtfflljgnpfldfaaGreatDoor
