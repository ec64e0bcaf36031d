/-
  rat's small: contract.
-/
import Derived.Test.YtfflljgnpfldfaaGreatDoorRatK
import Derived.Test.YtfflljgnpfldfaaGreatDoorAtF
import Derived.Test.YtfflljgnpfldfaaGreatDoorNodA
set_option linter.all false
set_option maxHeartbeats 128000000
set_option maxRecDepth 100000
namespace Go.Proofs.YtfflljgnpfldfaaGreatDoor
open Go.Proofs.Tryz
open Go.RowKit
theorem apV (M:Nat) (hM:M < 18446744073709551616) (l:List UInt8) (acc:Nat) (h:px l) (hv:acc*10 ^ l.length+cX l≤M):Lib.parseUintM M acc l=.ok (acc*10 ^ l.length+cX l):=by
 induction l generalizing acc with
 | nil=>simp[Lib.parseUintM,cX,pB]
 | cons c l ih=>
  have h1:=(nj c).1 (h c aB);have e:acc*10 ^ (c::l).length+cX (c::l)=(acc*10+(c.toNat - 48))*10 ^ l.length+cX l:=by
   rw[dz,e8,JZ,th,lH acc 10,e9 10 (10 ^ l.length)];omega
  rw[e]at hv ⊢;have h2:acc*10+(c.toNat - 48)≤M:=by
   have:=Nat.le_mul_of_pos_right (acc*10+(c.toNat - 48)) (uH (n:=l.length) (show 0 < 10 by decide));omega
  rw[Lib.parseUintM,if_pos h1,if_neg ae,if_neg ae];exact ih _ (fun x hx=>h x xp) hv
theorem Yg {l:List UInt8} (h:px l) (hne:l≠[]) (hv:cX l < 18446744073709551616):Lib.parseUintB 64 l=.ok (cX l):=by
 unfold Lib.parseUintB;rw[if_neg hne];have:=apV (2 ^ 64 - 1) ah l 0 h cO
 simpa using this
theorem apT {l:List UInt8} (h:px l) (hne:l≠[]) (hv:cX l < 9223372036854775808):Lib.parseIntB 64 l=.ok (cX l:Int):=by
 cases l with
 | nil=>exact absurd rfl hne
 | cons c r=>
  have h1:=(nj c).1 (h c aB);have h2:=Yg h hne ae;unfold Lib.parseIntB;simp only;rw[if_neg ae,h2];simp only;rw[if_neg ae,if_neg ae,if_neg ae]
theorem agt (P d b:Nat) (hb:0 < b):(10*P+d) / b=10*(P / b)+(10*(P % b)+d) / b∧(10*P+d) % b=(10*(P % b)+d) % b:=by
 have h:=Nat.div_add_mod P b;have e:10*P+d=b*(10*(P / b))+(10*(P % b)+d):=by
  conv=>lhs;rw[← h]
  rw[q8,Nat.mul_left_comm];omega
 rw[e,Nat.mul_add_div hb,Nat.mul_add_mod];exact lz
theorem apW (P d b i:Nat) (hb:0 < b) (hd:d≤9):ik (i+1) ((10*P+d) / b)=ik i (P / b)++[fW ((10*(P % b)+d) / b)]:=by
 have hq:(10*(P % b)+d) / b < 10:=by
  rw[Nat.div_lt_iff_lt_mul hb];have:=ic P hb;omega
 rw[BV,(agt P d b hb).1];generalize (10*(P % b)+d) / b=q at *;have e1:(10*(P / b)+q) / 10=P / b:=ae;have e2:fW (10*(P / b)+q)=fW q:=(by unfold fW;rw[Nat.mul_add_mod]);rw[e1,e2]
theorem apX:∀ (q:Nat) (h:q < 10) (w:World),(convert 21 9 (.int .i32 (48+(q:Int)))).run prog w=.ok (.string ⟨#[fW q]⟩) w
 | 0,_,w=>aj
 | 1,_,w=>aj
 | 2,_,w=>aj
 | 3,_,w=>aj
 | 4,_,w=>aj
 | 5,_,w=>aj
 | 6,_,w=>aj
 | 7,_,w=>aj
 | 8,_,w=>aj
 | 9,_,w=>aj
 | n+10,h,w=>absurd h ae
theorem agc (V b:Nat) (hV:0 < V) (hb1:2≤b) (hb2:b≤5) (rE:V % b=0) (hlen:(Lib.decDigits V).length≤1000) (w:World) :
  Calls prog 269 #[.string ⟨(Lib.decDigits V).toArray⟩,.int .i64 b] w fun e w'=>e=.returned (.string ⟨(Lib.decDigits (V / b)).toArray⟩)∧w' = w:=by
 have hd:=Nu V;have hval:=Al V;generalize hL:Lib.decDigits V=L at *;have HD:=Qh hd;have apY:=Qh hval;have hVb:0 < V / b:=Nat.div_pos (by
  rcases lI V b with h|h
  ·rw[qY h]at rE;omega
  ·exact h) ae
 have Nt:V / b < 10 ^ L.length:=by
  have:=Nr hd;rw[hval]at this;exact Bx (Fz _ _) this
 have RX:=Qh (agm L.length (V / b) hVb Nt);clear hd hval hL hVb Nt rE hV;have hb0:¬ b=0:=ae;have au9:((b:Int) == 0)=false:=ft;go_enter func269,ntmps269
 go_wp2_with fail;go_loopw [5,6,10] (fun s r x wr=>∃ i:Nat,x=.int .i64 (i:Nat)∧i≤L.length∧r=.int .i64 (cX (L.take i) % b:Nat)∧s=.string ⟨(ik i (cX (L.take i) / b)).toArray⟩∧wr=w) (fun _ _ x _=>L.length - (intOf x).toNat)
 case atStart=>exact⟨0,rfl,bV _,by simp[cX,pB],by simp[ik],rfl⟩
 case round=>
  obtain⟨i,rfl,hi,rfl,rfl,rfl⟩:=hrel;by_cases hlt:(i:Int) < L.length
  ·have a8:i < L.length:=ae;have fZ:(⟨L.toArray⟩:ByteArray)[i]'a8 = L[i]:=rfl;have hc:=(nj L[i]).1 (HD.o L[i] (gU _));have Np:cX (L.take (i+1))=10*cX (L.take i)+(L[i].toNat - 48):=by
    rw[Bo a8,XW]
   have hpl:=Je i (cX (L.take i) / b);have hmod:cX (L.take i) % b < b:=ic _ ae;have Yq:=apW (cX (L.take i)) (L[i].toNat - 48) b i ae ae;have Yr:=(agt (cX (L.take i)) (L[i].toNat - 48) b ae).2;rw[← Np]at Yq Yr;have El:=Qh (And.intro Yq Yr);clear Yq Yr Np;generalize hcc:L[i]=c at *;generalize hrr:cX (L.take i) % b=r at *;generalize ik i (cX (L.take i) / b)=S at *;clear hrr hcc;obtain⟨d,hdd⟩:∃ d,d=c.toNat - 48:=⟨_,rfl⟩
   have Ju:(c.toNat:Int)=48+(d:Int):=ae;rw[← hdd]at El;have hd9:d≤9:=ae;have Sg:(10*r+d) / b < 10:=(by rw[Nat.div_lt_iff_lt_mul ae];omega);have t1:(10*(r:Int)+(48+(d:Int) - 48)) / (b:Int)=(((10*r+d) / b:Nat):Int):=by
    rw[show 10*(r:Int)+(48+(d:Int) - 48)=((10*r+d:Nat):Int)by omega,Int.natCast_ediv]
   have t2:(10*(r:Int)+(48+(d:Int) - 48)) % (b:Int)=(((10*r+d) % b:Nat):Int):=by
    rw[show 10*(r:Int)+(48+(d:Int) - 48)=((10*r+d:Nat):Int)by omega,Int.natCast_emod]
   have hr2:(10*r+d) % b < b:=ic _ ae;have qI:(r:Int)≤4:=ae;generalize (10*r+d) / b=q at *;generalize (10*r+d) % b=r2 at *;have hcv:=fun w=>apX q Sg w
   have st:=Sd S [fW q];have hl3:¬ 9223372036854775807 < S.length+1:=ae;have hl4:S.length < 9223372036854775807:=ae;have HSL:=Qh hpl;clear hdd hc hr2 hmod hpl;go_wp2_with fail;go_roundw;case rel=>exact⟨i+1,bL,ae,by rw[El.o.2,t2],by rw[El.o.1],trivial⟩
   case measure=>exact bY
  ·obtain rfl:i=L.length:=by omega
   have lR:=Qh (show cX (L.take L.length)=V by rw[vN,apY.o]);rw[lR.o];have ct:=Tryz.strings_TrimLeft_one ⟨(ik L.length (V / b)).toArray⟩ 48 ah wr;rw[show Lib.trimLeftB (⟨(ik L.length (V / b)).toArray⟩:ByteArray).data.toList 48=Lib.decDigits (V / b)from RX.o]at ct;go_wp2_with fail;refine aI ct ?_;rintro e w1 ⟨rfl,rfl⟩;clear ct;exact Hx
theorem X6 (V:Nat):∃ P,Lib.decDigits V=P++[fW V]:=by
 obtain⟨k,h1,_⟩:=xX V;exact⟨ik k (V / 10),by rw[h1,BV]⟩
theorem X7 (V:Nat):(fW V).toNat=48+V % 10:=by
 have e:fW V=fW (V % 10):=(by unfold fW;rw[Nat.mod_mod]);rw[e,X8 (ic _ ah)]
theorem af7 (V:Nat):∃ p,(Lib.decDigits V).length=p+1∧∃ h:p < (Lib.decDigits V).length,(⟨(Lib.decDigits V).toArray⟩:ByteArray)[p]'h=fW V:=by
 obtain⟨P,hP⟩:=X6 V;rw[hP];exact⟨P.length,aB,aB,by show(P++[fW V])[P.length]'_=fW V;simp⟩
def jR (two i:Nat):Nat:=if i≤two then 2 ^ i else 2 ^ two*5 ^ (i - two)
theorem af8 (two i:Nat):jR two (i+1)=jR two i*(if two≤i then 5 else 2):=by
 unfold jR;by_cases h:i < two
 ·rw[if_pos ae,if_pos ae,if_neg ae,e8]
 ·rw[if_neg ae,if_pos (show two≤i by omega)];by_cases h2:i=two
  ·subst h2;rw[if_pos af];simp
  ·rw[if_neg ae,lH,← e8]
   congr 2;omega
theorem af9 (two i j:Nat) (h:i≤j):jR two i≤jR two j:=by
 obtain⟨k,rfl⟩:∃ k,j=i+k:=⟨j - i,ae⟩
 induction k with
 | zero=>exact af
 | succ k ih=>
  refine bQ (ih ae) ?_;rw[← kE,af8];exact Nat.le_mul_of_pos_right _ (by split<;>decide)
theorem X9 (two five:Nat):jR two (two+five)=2 ^ two*5 ^ five:=by
 unfold jR;by_cases h:five=0
 ·subst h;rw[if_pos ae];simp
 ·rw[if_neg ae,Nat.add_sub_cancel_left]
theorem Ya {neg:Bool} {V D:Nat} (hV:V≠0) (h:9223372036854775807 < D):ld neg V D=none:=by unfold ld;rw[if_neg hV,if_pos (.inl h)]
theorem apm {neg:Bool} {V D:Nat} (h:9223372036854775808 < V):ld neg V D=none:=by unfold ld;rw[if_neg ae,if_pos (.inr (.inl h))]
theorem Yb {w w':World} {e:TypeId} {s:ByteArray} (h:w' = w∨w' = Lib.bytesWorld w e s):Below w.heap.size w w':=by
 rcases h with rfl|rfl
 ·exact aC _ _
 ·exact Joins.below_bytesWorld _ w e s af
theorem apn {v V two back:Nat} (h:v*2 ^ (two+1)=V*2 ^ back) (hV:V % 2=0):v*2 ^ two=V / 2*2 ^ back:=by
 obtain⟨k,rfl⟩:=Nat.dvd_of_mod_eq_zero hV;rw[Bq _ ah];rw[e8,← lH,e9 _ 2,lH 2 k]at h;exact Nat.eq_of_mul_eq_mul_left ah h
theorem apo {x V five back:Nat} (h:x*5 ^ (five+1)=V*5 ^ back) (hV:V % 5=0):x*5 ^ five=V / 5*5 ^ back:=by
 obtain⟨k,rfl⟩:=Nat.dvd_of_mod_eq_zero hV;rw[Bq _ ah];rw[e8,← lH,e9 _ 5,lH 5 k]at h;exact Nat.eq_of_mul_eq_mul_left ah h
theorem aga {a b:Nat} (h:a≤b):(Lib.decDigits a).length≤(Lib.decDigits b).length:=by
 obtain⟨k,h1,h2,_⟩:=xX b;rw[h1,Je];exact alg a (k+1) (Bx h h2) ae
theorem agb {V:Nat} (h:19 < (Lib.decDigits V).length):10000000000000000000≤V:=by
 obtain⟨k,h1,h2,h3⟩:=xX V;rw[h1,Je]at h;rcases h3 with rfl|h3
 ·omega
 ·exact bQ (show 10000000000000000000≤10 ^ k from bQ ah (xr ah (show 19≤k by omega))) h3
theorem dec_lt {V:Nat} (h:¬ 19 < (Lib.decDigits V).length):V < 10000000000000000000:=by
 obtain⟨k,h1,h2,h3⟩:=xX V;rw[h1,Je]at h;exact iH h2 (bQ (xr ah (show k+1≤19 by omega)) ah)
theorem apq (neg:Bool) (v back:Nat) (hv:0 < v) (hb:back≤62) (hlen:(Lib.decDigits v).length≤200) (w:World) :
  Calls prog 254 #[.bool neg,.string ⟨(Lib.decDigits v).toArray⟩,.int .i64 back] w fun e w'=>e=.returned (kT (ew neg v (10 ^ back)))∧Below w.heap.size w w':=by
 obtain⟨F,hF⟩:∃ F,F=ew neg v (10 ^ back):=⟨_,rfl⟩
 rw[← hF];have HF:=Qh hF;clear hF;obtain⟨tr,hsz,bh⟩:=ri w #[.int .i64 0,.int .i64 0] 61;have TR:=Qh tr;have bE:=Qh bh;clear tr hsz bh;go_enter func254,ntmps254
 go_wp2_with fail;generalize w.alloc (.cells #[.int .i64 0,.int .i64 0] 61)=W at *;go_loopw [1,8] (fun s x wr=>∃ V two:Nat,s=.string ⟨(Lib.decDigits V).toArray⟩∧x=.int .i64 (two:Nat)∧two≤back∧0 < V∧V≤v∧v*2 ^ two=V*2 ^ back∧wr=W) (fun _ x _=>(intOf x).toNat)
 case atStart=>exact⟨v,back,rfl,rfl,af,hv,af,rfl,rfl⟩
 case round=>
  obtain⟨V,two,rfl,rfl,uX,dM,hVv,hinv,rfl⟩:=hrel;have Yc:=Qh hinv;have Nt:=bQ (aga hVv) hlen;have cd:V % 2=0→∀ w:World,Calls prog 269 #[.string ⟨(Lib.decDigits V).toArray⟩,.int .i64 2] w fun e w'=>e=.returned (.string ⟨(Lib.decDigits (V / 2)).toArray⟩)∧w' = w:=fun h w=>agc V 2 dM ah ah h ae w
  obtain⟨p,hp,hlt,fZ⟩:=af7 V;have rE:((fW V).toNat:Int)=48+((V % 10:Nat):Int):=(by rw[X7];omega);have nR:((Lib.decDigits V).length:Int) - 1=(p:Int):=ae;have Yd:V % 10≤9:=ae;clear hinv;generalize hL:Lib.decDigits V=L at *;have HL:=Qh hL;clear hL;generalize fW V=c at *;have HP:=Qh hp;clear hp;obtain⟨b,hb⟩:∃ b,b=decide (0 < two∧V % 2=0):=⟨_,rfl⟩
  go_upto_region 2 with fail
  go_cut [28] (fun x wc=>x=.bool b∧wc=wr)
  case first=>
   by_cases h0:0 < two
   ·have kh:(0:Int) < two:=ae;by_cases h2:V % 2=0
    ·have hb1:b=true:=(by rw[hb];exact fy ⟨h0,h2⟩);have e1:(48+((V % 10:Nat):Int) - 48) % 2=0:=ae;subst hb1;generalize V % 10=m at *;clear cd hb h2;go_wp2_with fail;go_meet
     case rel=>exact lz
    ·have hb1:b=false:=(by rw[hb];exact dU (fun h=>h2 h.2));have e1:(48+((V % 10:Nat):Int) - 48) % 2=1:=ae;subst hb1;generalize V % 10=m at *;clear cd hb h2;go_wp2_with fail;go_meet
     case rel=>exact lz
   ·have kh:¬ (0:Int) < two:=ae;have hb1:b=false:=(by rw[hb];exact dU (fun h=>h0 h.1));subst hb1;clear cd hb;go_wp2_with fail;go_meet
    case rel=>exact lz
  case rest=>
   obtain⟨rfl,rfl⟩:=hcut;clear hlt fZ rE nR Yd;cases b
   ·have hend:two=0∨V % 2≠0:=by
     rcases qu two with h|h
     ·exact .inl h
     ·right;intro h2;rw[fy ⟨h,h2⟩]at hb;cases hb
    clear cd hb;have hl:=HL.o;subst hl;clear HL HP;go_wp2_with fail;go_loopw [1,9] (fun s x ws=>∃ X five:Nat,s=.string ⟨(Lib.decDigits X).toArray⟩∧x=.int .i64 (five:Nat)∧five≤back∧0 < X∧X≤V∧V*5 ^ five=X*5 ^ back∧(two=0∨X % 2≠0)∧ws=wc) (fun _ x _=>(intOf x).toNat)
    case atStart=>exact⟨V,back,rfl,rfl,af,dM,af,rfl,hend,rfl⟩
    case round=>
     obtain⟨X,five,rfl,rfl,hfw,hX0,hXV,agd,age,rfl⟩:=hrel;have Ye:=Qh agd;have Yf:=Qh age;have hXl:=bQ (aga (bQ hXV hVv)) hlen;have cd:X % 5=0→∀ w:World,Calls prog 269 #[.string ⟨(Lib.decDigits X).toArray⟩,.int .i64 5] w fun e w'=>e=.returned (.string ⟨(Lib.decDigits (X / 5)).toArray⟩)∧w' = w:=fun h w=>agc X 5 hX0 ah ah h ae w
     obtain⟨p,hp,hlt,fZ⟩:=af7 X;have rE:((fW X).toNat:Int)=48+((X % 10:Nat):Int):=(by rw[X7];omega);have nR:((Lib.decDigits X).length:Int) - 1=(p:Int):=ae;have Yd:X % 10≤9:=ae;clear agd hend age;generalize hL:Lib.decDigits X=L at *;have HL:=Qh hL;clear hL;generalize fW X=c at *;have HP:=Qh hp;clear hp;obtain⟨b,hb⟩:∃ b,b=decide (0 < five∧X % 5=0):=⟨_,rfl⟩
     go_upto_region 5 with fail
     go_cut [43] (fun x wc=>x=.bool b∧wc=wr)
     case first=>
      by_cases h0:0 < five
      ·have kh:(0:Int) < five:=ae;by_cases h2:X % 5=0
       ·have hb1:b=true:=(by rw[hb];exact fy ⟨h0,h2⟩);have e1:(48+((X % 10:Nat):Int)) % 5=3:=ae;subst hb1;generalize X % 10=m at *;clear cd hb h2;go_wp2_with fail;go_meet
        case rel=>exact lz
       ·have hb1:b=false:=(by rw[hb];exact dU (fun h=>h2 h.2));have e1:¬ (48+((X % 10:Nat):Int)) % 5=3:=ae;have e2:(((48+((X % 10:Nat):Int)) % 5 == 3)=false):=(by rw[gT];exact e1);subst hb1;generalize X % 10=m at *;clear cd hb h2;go_wp2_with fail;go_meet
        case rel=>exact lz
      ·have kh:¬ (0:Int) < five:=ae;have hb1:b=false:=(by rw[hb];exact dU (fun h=>h0 h.1));subst hb1;clear cd hb;go_wp2_with fail;go_meet
       case rel=>exact lz
     case rest=>
      obtain⟨rfl,rfl⟩:=hcut;clear hlt fZ rE nR Yd;cases b
      ·have agf:five=0∨X % 5≠0:=by
        rcases qu five with h|h
        ·exact .inl h
        ·right;intro h2;rw[fy ⟨h,h2⟩]at hb;cases hb
       clear cd hb;have hl:=HL.o;subst hl;clear HL HP;have JX:Hid (F=ld neg X (2 ^ two*5 ^ five)):=Qh (by
        rw[HF.o,apr (V:=X) (two:=two) (five:=five) (by
         rw[← lH,Yc.o,Nat.mul_right_comm,Ye.o,lH,← Nat.mul_pow]),aps (apu Yf.o agf)])
       clear HF Yc Ye Yf agf;have h2w:¬ (62:Int) < two:=ae;by_cases h19:(19:Int) < (Lib.decDigits X).length
       ·have HN:=Qh (show F=none by rw[JX.o];exact apm (iH ah (agb (V:=X) ae)));obtain⟨r0,r1,r2,r3⟩:=TR.o.two;exact abr
       by_cases h27:(27:Int) < five
       ·have HN:=Qh (show F=none by rw[JX.o];exact Ya ae (iH (show 9223372036854775807 < 5 ^ 28 by decide) (bQ (xr ah (show 28≤five by omega)) (LH _ (uH ah)))));obtain⟨r0,r1,r2,r3⟩:=TR.o.two;exact abr
       have au5:X < 10000000000000000000:=dec_lt ae;have cp:=Tryz.strconv_ParseUint_10_at64_ok ⟨(Lib.decDigits X).toArray⟩ (by show(Lib.decDigits X).length≤_;omega) X (by
        show Lib.parseUintB 64 (Lib.decDigits X)=_;have:=Yg (Nu X) (by intro h;have h3:=Al X;rw[h]at h3;simp[cX,pB]at h3;omega) (by rw[Al];omega)
        rwa [Al]at this)
       generalize Lib.decDigits X=L at *;go_upto_region 10 with fail
       go_wp2_with fail;refine aQ (cp _) ?_;intro w1 hb1
       clear cp;replace hb1:=Yb hb1;have lf:=Qh (TR.o.keep hb1 af);have bX:=Qh (show Below w.heap.size w w1 from aH bE.o hb1 af);clear hb1;go_wp2_with fail;go_loopw [12,13] (fun d x ws=>∃ i:Nat,d=.int .u64 (jR two i:Nat)∧jR two i≤9223372036854775807∧x=.int .i64 (i:Nat)∧i≤two+five∧ws=w1) (fun _ x _=>two+five - (intOf x).toNat)
       case atStart=>exact⟨0,rfl,by simp[jR],rfl,bV _,rfl⟩
       case round=>
        obtain⟨i,rfl,hd,rfl,hi,rfl⟩:=hrel;have HD:=Qh hd;have hdI:((jR two i:Nat):Int)≤9223372036854775807:=ae;clear hd;by_cases hlt:(i:Int) < (two:Int)+(five:Int)
        ·have hst:=af8 two i;by_cases hge:two≤i
         ·have apv:(two:Int)≤(i:Int):=ae;rw[if_pos hge]at hst;by_cases jM:1844674407370955161 < jR two i
          ·have HN:=Qh (show F=none by
            rw[JX.o,← X9];exact Ya ae (iH ae (af9 two (i+1) (two+five) ae)))
           have Yh:(1844674407370955161:Int) < (jR two i:Nat):=ae;clear hst;exact abn lf.o.two
          ·have HS:=Qh (And.intro hst (show jR two i*5≤9223372036854775807 by omega));have Yh:¬ (1844674407370955161:Int) < (jR two i:Nat):=ae;clear hst;generalize jR two i=d at *;have hm:(d:Int)*5≤9223372036854775807:=ae;go_wp2_with fail;go_roundw;case rel=>exact⟨i+1,by rw[HS.o.1];first|rfl|go_num,by rw[HS.o.1];exact HS.o.2,bL,ae,trivial⟩
           case measure=>exact nC
         ·have apv:¬ (two:Int)≤(i:Int):=ae;rw[if_neg hge]at hst;by_cases jM:4611686018427387903 < jR two i
          ·have HN:=Qh (show F=none by
            rw[JX.o,← X9];exact Ya ae (iH ae (af9 two (i+1) (two+five) ae)))
           have Yh:(4611686018427387903:Int) < (jR two i:Nat):=ae;clear hst;exact abn lf.o.two
          ·have HS:=Qh (And.intro hst (show jR two i*2≤9223372036854775807 by omega));have Yh:¬ (4611686018427387903:Int) < (jR two i:Nat):=ae;clear hst;generalize jR two i=d at *;have hm:(d:Int)*2≤9223372036854775807:=ae;go_wp2_with fail;go_roundw;case rel=>exact⟨i+1,by rw[HS.o.1];first|rfl|go_num,by rw[HS.o.1];exact HS.o.2,bL,ae,trivial⟩
           case measure=>exact nC
        ·obtain rfl:i=two+five:=by omega
         have Nj:=Qh (show jR two (two+five)=2 ^ two*5 ^ five from X9 two five);have cf:=Yi neg X (jR two (two+five)) ae (by have:=HD.o;omega);rw[Nj.o,← JX.o,← Nj.o,BA (show X < 18446744073709551616 by omega),qY (show X < 18446744073709551616 by omega),BA (show jR two (two+five) < 18446744073709551616 by have:=HD.o;omega),qY (show jR two (two+five) < 18446744073709551616 by have:=HD.o;omega)]at cf;clear Nj HD;generalize jR two (two+five)=d at *;have cg:∀ w:World,Calls prog 221 #[.bool neg,.int .u64 0,.int .u64 (X:Nat),.int .u64 0,.int .u64 (d:Nat)] w fun e w'=>e=.returned (kT F)∧Below w.heap.size w w':=cf
         clear cf JX;go_wp2_with fail;refine aQ (cg _) ?_;intro w2 hb2
         clear cg;have pz:=Qh (lf.o.keep hb2 af);have aM:=Qh (show Below w.heap.size w w2 from aH bX.o hb2 af);clear hb2;obtain⟨r0,r1,r2,r3⟩:=pz.o.two;rcases F with _|⟨x,y⟩
         ·simp only[kT,dE];go_wp2_with fail;exact bB (v:=.tuple #[.agg #[.int .i64 0,.int .i64 0],dE 9]) (by simp[results,results254,go_sem,r0,r1,dE]) rfl ⟨rfl,(aM.o.setCell aB _).setCell aB _⟩
         ·simp only[kT];go_wp2_with fail;exact bB (v:=.tuple #[.agg #[.int .i64 x,.int .i64 y],.nilIface]) (by simp[results,results254,go_sem,r0,r1]) rfl ⟨rfl,(aM.o.setCell aB _).setCell aB _⟩
      ·obtain⟨h0,h2⟩:=Fs hb.symm;obtain⟨t2,rfl⟩:∃ k,five=k+1:=⟨five - 1,ae⟩
       have JY:=Qh (apo Ye.o h2);have zN:Hid (two=0∨X / 5 % 2≠0):=Qh (by rcases Yf.o with h|h;exact .inl h;right;omega);have oL:=cd h2;have hq:0 < X / 5:=ae;have Mc:X / 5≤V:=ae;clear cd hb;generalize X / 5=V2 at *;have ht:((t2+1:Nat):Int) - 1=(t2:Int):=ae;go_wp2_with fail;refine aI (oL _) ?_
       rintro e w1 ⟨rfl,rfl⟩;clear oL;go_wp2_with fail;go_roundw;case rel=>exact⟨V2,t2,rfl,dV,ae,hq,Mc,JY.o,zN.o,trivial⟩
       case measure=>exact nC
   ·obtain⟨h0,h2⟩:=Fs hb.symm;obtain⟨t2,rfl⟩:∃ k,two=k+1:=⟨two - 1,ae⟩
    have JY:=Qh (apn Yc.o h2);have oL:=cd h2;have hq:0 < V / 2:=ae;have Mc:V / 2≤v:=ae;clear cd hb;generalize V / 2=V2 at *;have ht:((t2+1:Nat):Int) - 1=(t2:Int):=ae;go_wp2_with fail;refine aI (oL _) ?_
    rintro e w1 ⟨rfl,rfl⟩;clear oL;go_wp2_with fail;go_roundw;case rel=>exact⟨V2,t2,rfl,dV,ae,hq,Mc,JY.o,trivial⟩
    case measure=>simp[intOf]
theorem apN (n:Int) (w:World) :
  Calls prog 100 #[.nilIface,.iface 100 (.int .i64 n)] w fun e w'=>e=.returned (.bool false)∧w' = w:=by
 exact abB
theorem apO {neg:Bool} {v j:Nat} {x y:Int} (h:ew neg v (10 ^ j)=some (x,y)) (w:World) :
  Calls prog 255 #[.agg #[.int .i64 x,.int .i64 y],.agg #[.int .i64 10,.int .i64 1]] w fun e w'=>e=.returned (kT (ew neg v (10 ^ (j+1))))∧Below w.heap.size w w':=by
 have hr:=apC (tQ j) h;obtain⟨r1,r2,r3,r4,r5⟩:=hr;have hx:In64 x:=⟨r3,r4⟩
 have hy:In64 y:=⟨ae,r2⟩
 have ha:oV x y=true:=(La x y hx hy).2 ⟨r1,r2,r3,r4,r5⟩;have hb:oV 10 1=true:=ah;have hd:=apP x y 10 1 hx hy (by unfold In64;omega) (by unfold In64;omega) w;have hs:=apB (tQ j) h;rw[e8,← hs];unfold Yn at hd;rw[ha,hb]at hd
 simpa using hd
theorem apQ {neg:Bool} {v:Nat} (h:v≤1000000000000000000):ew neg v (10 ^ 0)=some (fh neg v,1):=by
 rw[vQ,agn];unfold ld;by_cases h0:v=0
 ·subst h0;rw[if_pos rfl];cases neg<;>rfl
 ·rw[if_neg h0,if_neg ae];rfl
theorem apR {v:Nat} (h:(Lib.decDigits v).length≤18):v < 1000000000000000000:=by
 obtain⟨k,h1,h2,h3⟩:=xX v;rw[h1,Je]at h;exact iH h2 (xr ah h)
theorem apS (neg:Bool) (v back:Nat) (hv:0 < v) (hz:v % 10≠0) (hlen:(Lib.decDigits v).length≤200) (hback:back≤100000) (w:World) :
  Calls prog 222 #[.bool neg,.string ⟨(Lib.decDigits v).toArray⟩,.int .i64 back] w fun e w'=>e=.returned (kT (ew neg v (10 ^ back)))∧Below w.heap.size w w':=by
 obtain⟨F,hF⟩:∃ F,F=ew neg v (10 ^ back):=⟨_,rfl⟩
 rw[← hF];have HF:=Qh hF;clear hF;obtain⟨tr,hsz,bh⟩:=ri w #[.int .i64 0,.int .i64 0] 61;have TR:=Qh tr;have bE:=Qh bh;clear tr bh;have Sq:Lib.decDigits v≠[]:=(by intro h;have h3:=Al v;rw[h]at h3;simp[cX,pB]at h3;omega);have rE:=Al v;have hdd:=Nu v;by_cases au6:(62:Int) < back
 ·have HN:=Qh (show F=none by rw[HF.o];exact afW hz ae);clear rE Sq hdd;go_enter func222,ntmps222
  go_wp2_with fail;generalize w.alloc (.cells #[.int .i64 0,.int .i64 0] 61)=W at *;obtain⟨r0,r1,r2,r3⟩:=TR.o.two;exact bB (v:=.tuple #[.agg #[.int .i64 0,.int .i64 0],dE 9]) U9 rfl ⟨zq,bE.o⟩
 by_cases JR:(18:Int) < (Lib.decDigits v).length
 ·have cl:=apq neg v back hv ae hlen;rw[← HF.o]at cl;clear rE Sq hdd HF;generalize Lib.decDigits v=L at *;go_enter func222,ntmps222
  go_wp2_with fail;generalize w.alloc (.cells #[.int .i64 0,.int .i64 0] 61)=W at *;go_wp2_with fail;refine aQ (cl _) ?_;intro w2 hb2
  clear cl;have pz:=Qh (TR.o.keep hb2 af);have aM:=Qh (show Below w.heap.size w w2 from aH bE.o hb2 ae);clear hb2;obtain⟨r0,r1,r2,r3⟩:=pz.o.two;rcases F with _|⟨x,y⟩
  ·simp only[kT,dE];go_wp2_with fail;exact bB (v:=.tuple #[.agg #[.int .i64 0,.int .i64 0],dE 9]) U9 rfl ⟨rfl,(aM.o.setCell aB _).setCell aB _⟩
  ·simp only[kT];go_wp2_with fail;exact bB (v:=.tuple #[.agg #[.int .i64 x,.int .i64 y],.nilIface]) (by simp[results,results222,go_sem,r0,r1]) rfl ⟨rfl,(aM.o.setCell aB _).setCell aB _⟩
 have au7:v < 1000000000000000000:=apR ae;have cp:=Tryz.strconv_ParseInt_10_at64_ok ⟨(Lib.decDigits v).toArray⟩ (by show(Lib.decDigits v).length≤_;omega) (v:Int) (by
  show Lib.parseIntB 64 (Lib.decDigits v)=_;have:=apT hdd Sq (by rw[rE];omega)
  rwa [rE]at this)
 clear rE Sq hdd;generalize Lib.decDigits v=L at *;go_enter func222,ntmps222
 go_wp2_with fail;generalize w.alloc (.cells #[.int .i64 0,.int .i64 0] 61)=W at *;go_wp2_with fail;refine aQ (cp _) ?_;intro w1 hb1
 clear cp;replace hb1:Below W.heap.size W w1:=by
  rcases hb1 with rfl|⟨t,rfl⟩
  ·exact aC _ _
  ·exact Joins.below_bytesWorld _ _ _ _ af
 refine Uy (TR.o.keep hb1 af) ?_;intro lf bX hs1;clear hb1 TR bE hsz;have Aq:=Qh (apQ (neg:=neg) (v:=v) ae);obtain⟨x0,hx0⟩:∃ x0,x0=fh neg v:=⟨_,rfl⟩
 rw[← hx0]at Aq;obtain⟨ta,hsz,bh⟩:=ri w1 #[.int .i64 x0,.int .i64 1] 61;have TA:=Qh ta;have pz:=Qh (lf.o.keep bh af);have aM:=Qh (show Below w.heap.size w (w1.alloc (.cells #[.int .i64 x0,.int .i64 1] 61))from aH bX.o bh (by have:=hs1.o;omega));clear ta bh lf bX;go_upto_if 31 with (fail)
 go_cut [8] (fun x ws=>x=.int .i64 x0∧ws=w1)
 case first=>
  cases neg
  ·go_wp2_with fail;go_meet
   case rel=>exact⟨by rw[hx0];rfl,rfl⟩
  ·go_wp2_with fail;go_meet
   case rel=>exact⟨by rw[hx0];rfl,rfl⟩
 case rest=>
  obtain⟨rfl,rfl⟩:=hcut;clear hx0;go_upto_region 9 with fail
  generalize hA:wc.heap.size=A at *;generalize wc.alloc (.cells #[.int .i64 x0,.int .i64 1] 61)=W2 at *;clear hA;go_loopw [2] (fun x ws=>∃ j k:Nat,∃ x' y':Int,x=.int .i64 (k:Nat)∧k+j=back∧ew neg v (10 ^ j)=some (x',y')∧ai ws w.heap.size #[.int .i64 0,.int .i64 0]∧ai ws A #[.int .i64 x',.int .i64 y']∧Below w.heap.size w ws) (fun x _=>(intOf x).toNat)
  case atStart=>exact⟨0,back,x0,1,rfl,ae,Aq.o,pz.o,TA.o,aM.o⟩
  case round=>
   obtain⟨j,k,x,y,rfl,hkj,hfr,tr,ta,bh⟩:=hrel;obtain⟨a0,a1,a2,a3⟩:=ta.two;clear Aq pz TA aM;by_cases hk:(0:Int) < k
   ·have cd:=fun w=>apO hfr w
    refine fx tr ta bh hkj ?_;clear tr ta bh hkj;intro TR TA HB Yo;have JY:=Qh (fun (hn:ew neg v (10 ^ (j+1))=none)=>show F=none by
     rw[HF.o];exact apF ae ae hn back (by have:=Yo.o;omega))
    obtain⟨G,hG⟩:∃ G,G=ew neg v (10 ^ (j+1)):=⟨_,rfl⟩
    rw[← hG]at JY cd;have HG:=Qh hG;clear hG hfr;go_wp2_with fail;refine aQ (cd _) ?_;intro w3 hb3
    clear cd a0 a1 a2 a3;have J0:=Qh (TR.o.keep hb3 af);have TA3:=Qh (TA.o.keep hb3 af);have bT:=Qh (show Below w.heap.size w w3 from aH HB.o hb3 (by have:=HB.o.size;omega));clear hb3 TR TA HB;rcases G with _|⟨x2,y2⟩
    ·have HN:=Qh (JY.o rfl);obtain⟨tb,hsz,gh⟩:=ri w3 #[.int .i64 0,.int .i64 0] 61;have Yp:=Qh (J0.o.keep gh af);have fe:=Qh (show Below w.heap.size w (w3.alloc (.cells #[.int .i64 0,.int .i64 0] 61))from aH bT.o gh (by have:=bT.o.size;omega));clear tb hsz gh;obtain⟨r0,r1,r2,r3⟩:=Yp.o.two;have ci:=Q5 9 9;rw[show((9:Int) == 9)=true from rfl]at ci;simp only[kT,dE];go_wp2_with fail;generalize w3.alloc (.cells #[.int .i64 0,.int .i64 0] 61)=W4 at *;refine aI (ci _) ?_
     rintro e w5 ⟨rfl,rfl⟩;clear ci;go_wp2_with fail;exact bB (v:=.tuple #[.agg #[.int .i64 0,.int .i64 0],dE 9]) U9 rfl ⟨zq,(fe.o.setCell aB _).setCell aB _⟩
    ·obtain⟨tb,hsz,gh⟩:=ri w3 #[.int .i64 x2,.int .i64 y2] 61;refine aY (J0.o.keep gh af) (TA3.o.keep gh af) tb ?_;intro Yp TA4 TB4;have fe:=Qh (show Below w.heap.size w (w3.alloc (.cells #[.int .i64 x2,.int .i64 y2] 61))from aH bT.o gh (by have:=bT.o.size;omega));clear tb hsz gh;obtain⟨a0,a1,a2,a3⟩:=TA4.o.two;obtain⟨b0,b1,b2,b3⟩:=TB4.o.two;have ci:=apN 9;obtain⟨k2,rfl⟩:∃ k2,k=k2+1:=⟨k - 1,ae⟩
     have au8:(k2:Int)≤62:=(by have:=Yo.o;omega);have ht:((k2+1:Nat):Int) - 1=(k2:Int):=ae;simp only[kT];go_wp2_with fail;generalize w3.alloc (.cells #[.int .i64 x2,.int .i64 y2] 61)=W4 at *;refine aI (ci _) ?_
     rintro e w5 ⟨rfl,rfl⟩;clear ci;go_wp2_with fail;go_roundw;case rel=>exact⟨j+1,k2,x2,y2,dV,by have:=Yo.o;omega,HG.o.symm,(Yp.o.other (by have:=hs1.o;show A≠w.heap.size;omega) _).other (by have:=hs1.o;show A≠w.heap.size;omega) _,(TA4.o.set 0 _).set 1 _,(fe.o.setCell Lu _).setCell Lu _⟩
     case measure=>exact nC
   ·obtain rfl:k=0:=by omega
    obtain rfl:j=back:=ae
    have HN:=Qh (show F=some (x,y)by rw[HF.o,hfr]);obtain⟨r0,r1,r2,r3⟩:=tr.two;have HB:=Qh bh;clear tr ta bh hfr HF;go_wp2_with fail;exact bB (v:=.tuple #[.agg #[.int .i64 x,.int .i64 y],.nilIface]) (by simp[results,results222,go_sem,r0,r1]) rfl ⟨zq,(HB.o.setCell aB _).setCell aB _⟩
end Go.Proofs.YtfflljgnpfldfaaGreatDoor
