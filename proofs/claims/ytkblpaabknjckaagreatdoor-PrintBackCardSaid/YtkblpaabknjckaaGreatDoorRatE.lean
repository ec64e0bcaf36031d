/-
  Contract of math/bits.Div64.
-/
import Derived.Test.YtkblpaabknjckaaGreatDoorBaseD
import Derived.Test.YtkblpaabknjckaaGreatDoorParR
import Derived.Lib.ItoaNum
import Derived.Laws.Bits64b
import Derived.Test.YtkblpaabknjckaaGreatDoorRatD
import Derived.Deep.LoopGhost
import Derived.Deep.CutBlock
import Derived.Deep.DeepCutAuto
set_option maxHeartbeats 128000000
set_option linter.unusedVariables false
namespace Go.Proofs.YtkblpaabknjckaaGreatDoor
theorem pow64 (s:Nat) (hs:s≤63):2 ^ (64 - s)*2 ^ s=18446744073709551616:=by
 rw[← Nat.pow_add,Nat.sub_add_cancel (by omega)]
theorem clz_bd (y:Nat) (h0:0 < y) (hy:y < 18446744073709551616):∃ s:Nat,s≤63∧(64 - (Lib.bitLen y:Int))=s∧9223372036854775808≤y*2 ^ s∧y*2 ^ s < 18446744073709551616:=by
 obtain⟨h1,h2,h3⟩:=Lib.bitLenAux_bounds 64 y hy (by omega);have h4:=Lib.bitLen_le y 64 lrf hy;unfold Lib.bitLen at *;generalize Lib.bitLenAux 64 y=k at *;refine⟨64 - k,by omega,by omega,?_,?_⟩
 ·have:2 ^ (k - 1)*2 ^ (64 - k)≤y*2 ^ (64 - k):=Nat.mul_le_mul_right _ h2;rw[← Nat.pow_add,show k - 1+(64 - k)=63 by omega]at this;exact this
 ·have:y*2 ^ (64 - k) < 2 ^ k*2 ^ (64 - k):=Nat.mul_lt_mul_of_pos_right h3 (Nat.pow_pos (by decide));rw[← Nat.pow_add,show k+(64 - k)=64 by omega]at this;exact this
structure DivN (hi lo y s Y U L:Nat):Prop where
 s63:s≤63
 eY:Y=y*2 ^ s
 lo1:9223372036854775808≤Y
 hi1:Y < 18446744073709551616
 eU:U=hi*2 ^ s+lo / 2 ^ (64 - s)
 lt:U < Y
 eL:L=lo*2 ^ s % 18446744073709551616
 all:(hi*18446744073709551616+lo)*2 ^ s=U*18446744073709551616+L
 ltHI:hi*2 ^ s < 18446744073709551616
 or':hi*2 ^ s ||| lo / 2 ^ (64 - s)=U
theorem divN_of (hi lo y s:Nat) (hs:s≤63) (hh:hi < y) (hlo:lo < 18446744073709551616) (h1:9223372036854775808≤y*2 ^ s) (h2:y*2 ^ s < 18446744073709551616) :
  DivN hi lo y s (y*2 ^ s) (hi*2 ^ s+lo / 2 ^ (64 - s)) (lo*2 ^ s % 18446744073709551616):=by
 have hp:=pow64 s hs;have p0:0 < 2 ^ s:=Nat.pow_pos (by decide);have p1:0 < 2 ^ (64 - s):=Nat.pow_pos (by decide);have e1:lo*2 ^ s / 18446744073709551616=lo / 2 ^ (64 - s):=(by rw[← hp,Nat.mul_div_mul_right _ _ p0]);have e2:lo / 2 ^ (64 - s) < 2 ^ s:=(by rw[Nat.div_lt_iff_lt_mul p1,Nat.mul_comm,hp];exact hlo);have e3:hi*2 ^ s+2 ^ s≤y*2 ^ s:=by
  have:(hi+1)*2 ^ s≤y*2 ^ s:=Nat.mul_le_mul_right _ hh
  rwa [Nat.add_mul,Nat.one_mul]at this
 refine⟨hs,rfl,h1,h2,rfl,by omega,rfl,?_,by omega,?_⟩
 ·have:=Nat.div_add_mod (lo*2 ^ s) 18446744073709551616;rw[e1]at this;rw[Nat.add_mul,Nat.add_mul];have e4:hi*18446744073709551616*2 ^ s=hi*2 ^ s*18446744073709551616:=(by rw[Nat.mul_assoc,Nat.mul_assoc,Nat.mul_comm 18446744073709551616]);rw[e4];omega
 ·have:=Nat.shiftLeft_add_eq_or_of_lt e2 hi;rw[Nat.shiftLeft_eq]at this;exact this.symm
theorem div_end {hi lo y s Y U L:Nat} (h:DivN hi lo y s Y U L) (q1 r1 q0 r0:Nat) (e1:q1=(U*4294967296+L / 4294967296) / Y) (e2:r1=(U*4294967296+L / 4294967296) % Y)
  (e3:q0=(r1*4294967296+L % 4294967296) / Y) (e4:r0=(r1*4294967296+L % 4294967296) % Y) :
  (hi*18446744073709551616+lo) / y=q1*4294967296+q0∧(hi*18446744073709551616+lo) % y=r0 / 2 ^ s:=by
 obtain⟨h1,h2,h3,h4,h5,h6,h7,h8,_,_⟩:=h;have p0:0 < 2 ^ s:=Nat.pow_pos (by decide);have a1:=Nat.div_add_mod (U*4294967296+L / 4294967296) Y;have a2:=Nat.div_add_mod (r1*4294967296+L % 4294967296) Y;have a3:=Nat.mod_lt (r1*4294967296+L % 4294967296) (show 0 < Y by omega);rw[← e1,← e2]at a1;rw[← e3,← e4]at a2;rw[← e4]at a3;have a4:(hi*18446744073709551616+lo)*2 ^ s=Y*(q1*4294967296+q0)+r0:=by
  rw[h8,Nat.mul_add,← Nat.mul_assoc];clear e1 e2 e3 e4 h5 h7 h2 h8;generalize Y*q1=A at *;generalize Y*q0=C at *;omega
 have d1:=Nat.mul_div_mul_right (hi*18446744073709551616+lo) y p0;have d2:=Nat.mul_mod_mul_right (2 ^ s) (hi*18446744073709551616+lo) y;rw[← h2,a4]at d1 d2;rw[Nat.mul_add_div (by omega),Nat.div_eq_of_lt a3]at d1;rw[Nat.mul_add_mod,Nat.mod_eq_of_lt a3]at d2;exact⟨by omega,by rw[d2,Nat.mul_div_cancel _ p0]⟩
theorem mask32 (a:Nat) (ha:a < 18446744073709551616):bits .and .u64 (a:Int) 4294967295=((a % 4294967296:Nat):Int):=by
 have h:=bits_and_u64_nat a 4294967295 ha (by omega);have e:a &&& 4294967295=a % 4294967296:=Nat.and_two_pow_sub_one_eq_mod a 32;rw[e]at h;exact h
theorem wrapN (a:Nat) (ha:a < 18446744073709551616):IntKind.u64.wrap (a:Int)=(a:Int):=by rw[IntKind.wrap_u64];omega
theorem wrapM (a:Nat):IntKind.u64.wrap (a:Int)=((a % 18446744073709551616:Nat):Int):=by rw[IntKind.wrap_u64];omega
open Go.Proofs.Tryz
open Go.RowKit
theorem ret_pair {k:IntKind} {a b c d:Int} (h1:a=c) (h2:b=d):Ending.returned (.tuple #[.int k a,.int k b])=.returned (.tuple #[.int k c,.int k d]):=by rw[h1,h2]
def QInv (Q U y1:Nat) (g:Nat) (x rh:Value) (wr w1:World):Prop:=∃ p d:Nat,g=p∧x=.int .u64 (p:Nat)∧rh=.int .u64 (d:Nat)∧Q≤p∧p≤4294967297∧d < 4294967296∧p*y1+d=U∧wr=w1
def QEnd (Q:Nat) (x:Value) (wc w1:World):Prop:=x=.int .u64 (Q:Nat)∧wc=w1
set_option maxRecDepth 100000 in theorem div64_any (hi lo y : Nat) (hlo : lo < 18446744073709551616) (hh : hi < y) (hy : y < 18446744073709551616) (w : World) :
  Calls prog 198 #[.int .u64 hi,.int .u64 lo,.int .u64 y] w fun e w'=>
   e=.returned (.tuple #[.int .u64 ((hi*18446744073709551616+lo) / y:Nat),.int .u64 ((hi*18446744073709551616+lo) % y:Nat)])∧∃ m,w' = w.drewN m:=by
 have hyz:((y:Int) == 0)=false:=(by rw[beq_eq_false_iff_ne];omega);have hle:¬ (y:Int)≤hi:=(by omega);by_cases h0:hi=0
 ·subst h0;have HR:Hid ((0*18446744073709551616+lo) / y=lo / y∧(0*18446744073709551616+lo) % y=lo % y):=Qh (by rw[Nat.zero_mul,Nat.zero_add];exact⟨rfl,rfl⟩);have hw:IntKind.u64.wrap ((lo:Int) / (y:Int))=((lo / y:Nat):Int):=by
   rw[← Int.natCast_ediv];exact wrapN _ (Nat.lt_of_le_of_lt (Nat.div_le_self _ _) hlo)
  have HM:=Qh (show(lo:Int) % (y:Int)=((lo % y:Nat):Int)from (Int.natCast_emod _ _).symm);go_enter func198,ntmps198
  go_wp2_with fail;go_quiet (fail)
  go_wp2_with fail;go_ret2
  exact⟨by rw[HR.out.1,HR.out.2];exact ret_pair rfl HM.out,nq,rfl⟩
 ·have hz:((hi:Int) == 0)=false:=(by rw[beq_eq_false_iff_ne];omega);have cl:=fun w'=>Tryz.bits_LeadingZeros64 (y:Int) w' (by omega) (by omega)
  rw[Int.toNat_natCast]at cl;obtain⟨s,hs63,hs,g1,g2⟩:=clz_bd y (by omega) hy;rw[hs]at cl;clear hs;have HD:=Qh (divN_of hi lo y s hs63 hh hlo g1 g2);have HE0:=fun q1 r1 q0 r0 e1 e2 e3 e4=>div_end HD.out q1 r1 q0 r0 e1 e2 e3 e4
  have HE:=Qh HE0;clear HE0;have x1:IntKind.u64.wrap ((y:Int)*2 ^ s)=((y*2 ^ s:Nat):Int):=(by rw[← wrapN _ g2];simp);have x4:IntKind.u64.wrap ((hi:Int)*2 ^ s)=((hi*2 ^ s:Nat):Int):=(by rw[← wrapN _ HD.out.ltHI];simp);have x5:(lo:Int) / 2 ^ (64 - s)=((lo / 2 ^ (64 - s):Nat):Int):=(by simp);have x6:bits .or .u64 ((hi*2 ^ s:Nat):Int) ((lo / 2 ^ (64 - s):Nat):Int)=((hi*2 ^ s+lo / 2 ^ (64 - s):Nat):Int):=by
   rw[bits_or_u64_nat _ _ HD.out.ltHI (Nat.lt_of_le_of_lt (Nat.div_le_self _ _) hlo),HD.out.or']
  have x7:IntKind.u64.wrap ((lo:Int)*2 ^ s)=((lo*2 ^ s % 18446744073709551616:Nat):Int):=(by rw[← wrapM];simp);have hU:=HD.out.lt;have hL:lo*2 ^ s % 18446744073709551616 < 18446744073709551616:=Nat.mod_lt _ (by decide);generalize hi*2 ^ s+lo / 2 ^ (64 - s)=U at *;generalize lo*2 ^ s % 18446744073709551616=L at *;generalize y*2 ^ s=Y at *;generalize hi*2 ^ s=HI at *;generalize lo / 2 ^ (64 - s)=LO at *;have x2:(Y:Int) / 4294967296=((Y / 4294967296:Nat):Int):=(by omega);have x3:=mask32 Y g2;have x8:(L:Int) / 4294967296=((L / 4294967296:Nat):Int):=(by omega);have x9:=mask32 L hL;have hy1:2147483648≤Y / 4294967296:=(by omega);have hy1':Y / 4294967296 < 4294967296:=(by omega);have hy0:Y % 4294967296 < 4294967296:=(by omega);have hu1:L / 4294967296 < 4294967296:=(by omega);have hu0:L % 4294967296 < 4294967296:=(by omega);have HY:=Qh (show Y=Y / 4294967296*4294967296+Y % 4294967296 by omega);generalize Y / 4294967296=y1 at *;generalize Y % 4294967296=y0 at *;generalize L / 4294967296=u1 at *;generalize L % 4294967296=u0 at *;have qy1:((y1:Int) == 0)=false:=(by rw[beq_eq_false_iff_ne];omega);have hYe:=HY.out;have HS:=Qh (q_start 4294967296 y1 y0 U u1 (by omega) hy0 (by omega) hu1 (by omega));have HQL:=Qh (q_lt 4294967296 y1 y0 U u1 (by decide) (by omega) hu1);have hmod:=Nat.div_add_mod U y1;have hqle:U / y1≤4294967297:=HS.out.2.1;have x10:(U:Int) / (y1:Int)=((U / y1:Nat):Int):=(Int.natCast_ediv _ _).symm;obtain⟨z,hz1⟩:∃ z,z=U / y1*y1:=⟨_,rfl⟩
  have hzU:z≤U:=(by rw[hz1,Nat.mul_comm];omega);have x11:IntKind.u64.wrap (((U / y1:Nat):Int)*(y1:Int))=(z:Int):=(by rw[← Int.natCast_mul,← hz1];exact wrapN _ (by omega));obtain⟨r,hr1⟩:∃ r,r=U % y1:=⟨_,rfl⟩
  have x12:(U:Int) - (z:Int)=(r:Int):=(by rw[hz1,hr1,Nat.mul_comm];omega);have hry:r < y1:=(by rw[hr1];exact Nat.mod_lt _ (by omega));have HI1:=Qh (show U / y1*y1+r=U by rw[hr1,Nat.mul_comm];exact hmod);rw[← hr1]at HS;clear hmod hYe hz1 hr1;generalize U / y1=q at *;have p1:2147483648≤(y1:Int):=(by omega);have p2:(y1:Int)≤4294967295:=(by omega);have p3:(U:Int)≤18446744073709551615:=(by omega);have p4:(z:Int)≤U:=(by omega);clear h0 hlo hh hy g1 hy1 hy1';go_enter func198,ntmps198
  go_wp2_with fail;refine(cl _).mono ?_;rintro e w1 ⟨rfl,rfl⟩;clear cl;go_upto_region 15 with fail
  clear x1 x2 x3 x4 x5 x6 x7 x8 x9 hyz hz hle g2 hU hs63 hL;go_upto_block 0 with fail
  obtain⟨Q,hQe⟩:∃ Q,Q=(U*4294967296+u1) / (y1*4294967296+y0):=⟨_,rfl⟩
  have HQe:=Qh hQe;rw[← hQe]at HQL HS;clear hQe x10 x11 x12 hzU p4 p3 qy1;have hQ0:Q≤q:=HS.out.1;have HUY:=Qh HD.out.lt;go_cut [15] (fun x wc=>QEnd Q x wc w1)
  case first=>
   go_wp2_with fail;go_loopg [15,16] q (fun g x rh wr=>QInv Q U y1 g x rh wr w1)
   case atStart=>exact⟨q,r,rfl,rfl,rfl,hQ0,hqle,by omega,HI1.out,rfl⟩
   case round=>
    clear hQ0 hqle HI1 HS hry;obtain⟨p,d,hg,rfl,rfl,hQ,hqB,hr,hiv,rfl⟩:=hrel;obtain⟨gq,hgq⟩:∃ x,x=gk:=⟨_,rfl⟩
    subst hgq;have HV:=Qh hiv;have HG:=Qh hg;clear hiv hg;have HYES:Hid (4294967296≤p∨4294967296*d+u1 < p*y0→Q≤p - 1∧1≤p∧(p - 1)*y1+(d+y1)=U):=Qh (fun ht=>by
     rw[HQe.out];exact q_yes 4294967296 y1 y0 U u1 (by decide) (Nat.lt_of_lt_of_eq HUY.out HY.out) (by omega) HV.out (by rw[← HQe.out];exact hQ) ht)
    by_cases cB:p < 4294967296
    ·have kB:¬ 4294967296≤(p:Int):=(by omega);obtain⟨A,hA⟩:∃ A,A=p*y0:=⟨_,rfl⟩
     have xa:IntKind.u64.wrap ((p:Int)*(y0:Int))=(A:Int):=by
      rw[← Int.natCast_mul,← hA];refine wrapN _ ?_;have:=Nat.mul_le_mul (show p≤4294967295 by omega) (show y0≤4294967295 by omega);omega
     have HA:=Qh hA;rw[← hA]at HYES;clear hA;by_cases cT:4294967296*d+u1 < A
     ·have kT:4294967296*(d:Int)+(u1:Int) < (A:Int):=(by omega);obtain⟨z1,z2,z3⟩:=HYES.out (.inr cT);have Z3:=Qh z3;have k1:1≤(p:Int):=(by omega);have e1:((p:Int) - 1)=((p - 1:Nat):Int):=(by omega);have E1:=Qh e1;clear z3 e1 HYES;by_cases cR:4294967296≤(d:Int)+(y1:Int)
      ·go_wp2_with fail;go_meet
       case rel=>
        refine⟨?_,rfl⟩;rw[E1.out,HQe.out]
        congr 2
        exact q_break 4294967296 y1 y0 U u1 (by omega) Z3.out (by rw[← HQe.out];exact z1) (by omega) hy0 (by omega)
      ·go_wp2_with fail;go_roundg (p - 1)
       case measure=>rw[HG.out];omega
       case rel=>exact⟨p - 1,d+y1,rfl,by rw[E1.out],by rw[Int.natCast_add],z1,by omega,by omega,Z3.out,rfl⟩
     ·have kT:¬ 4294967296*(d:Int)+(u1:Int) < (A:Int):=(by omega);clear HYES;go_wp2_with fail;go_meet
      case rel=>
       refine⟨?_,rfl⟩;rw[HQe.out]
       congr 2
       exact q_no 4294967296 y1 y0 U u1 (by omega) HV.out (by rw[← HQe.out];exact hQ) (by rw[← HA.out];exact cT)
    ·have kB:4294967296≤(p:Int):=(by omega);obtain⟨z1,z2,z3⟩:=HYES.out (.inl (by omega));have Z3:=Qh z3;have k1:1≤(p:Int):=(by omega);have e1:((p:Int) - 1)=((p - 1:Nat):Int):=(by omega);have E1:=Qh e1;clear z3 e1 HYES cB;by_cases cR:4294967296≤(d:Int)+(y1:Int)
     ·go_wp2_with fail;go_meet
      case rel=>
       refine⟨?_,rfl⟩;rw[E1.out,HQe.out]
       congr 2
       exact q_break 4294967296 y1 y0 U u1 (by omega) Z3.out (by rw[← HQe.out];exact z1) (by omega) hy0 (by omega)
     ·go_wp2_with fail;go_roundg (p - 1)
      case measure=>rw[HG.out];omega
      case rel=>exact⟨p - 1,d+y1,rfl,by rw[E1.out],by rw[Int.natCast_add],z1,by omega,by omega,Z3.out,rfl⟩
  case rest=>
   obtain⟨rfl,rfl⟩:=hcut;obtain⟨wc1,hwc1⟩:∃ x,x=wc:=⟨_,rfl⟩
   subst hwc1;clear hQ0 hqle HI1 HS hry;have hQb:=HQL.out;have hY0:0 < Y:=(by have:=HY.out;omega);have hYM:=HD.out.hi1;obtain⟨R1,hR1⟩:∃ R1,R1=(U*4294967296+u1) % Y:=⟨_,rfl⟩
   have hQe2:Q=(U*4294967296+u1) / Y:=(by rw[HQe.out,← HY.out]);have hdm:=Nat.div_add_mod (U*4294967296+u1) Y;have hRY:R1 < Y:=(by rw[hR1];exact Nat.mod_lt _ hY0);rw[← hQe2,← hR1]at hdm;have HR1:=Qh hR1;have HQY:=Qh hQe2;clear hR1 hQe2;obtain⟨M1,hM1⟩:∃ M1,M1=U*4294967296 % 18446744073709551616:=⟨_,rfl⟩
   obtain⟨M3,hM3⟩:∃ M3,M3=Q*Y % 18446744073709551616:=⟨_,rfl⟩
   have y1a:IntKind.u64.wrap ((U:Int)*4294967296)=(M1:Int):=(by rw[hM1,← wrapM];simp);have y2a:(M1:Int)+(u1:Int)≤18446744073709551615:=(by omega);have y3a:IntKind.u64.wrap ((Q:Int)*(Y:Int))=(M3:Int):=(by rw[hM3,← wrapM];simp);have y4a:IntKind.u64.wrap ((M1:Int)+(u1:Int) - (M3:Int))=(R1:Int):=by
    rw[IntKind.wrap_u64];rw[Nat.mul_comm]at hdm;generalize Q*Y=QY at *;omega
   have HS2:=Qh (q_start 4294967296 y1 y0 R1 u0 (by omega) hy0 (by omega) hu0 (Nat.lt_of_lt_of_eq hRY HY.out));have HQL2:=Qh (q_lt 4294967296 y1 y0 R1 u0 (by decide) (Nat.lt_of_lt_of_eq hRY HY.out) hu0);have hmod:=Nat.div_add_mod R1 y1;have hqle2:R1 / y1≤4294967297:=HS2.out.2.1;have x10:(R1:Int) / (y1:Int)=((R1 / y1:Nat):Int):=(Int.natCast_ediv _ _).symm;obtain⟨z2,hz2⟩:∃ z,z=R1 / y1*y1:=⟨_,rfl⟩
   have hzU2:z2≤R1:=(by rw[hz2,Nat.mul_comm];omega);have x11:IntKind.u64.wrap (((R1 / y1:Nat):Int)*(y1:Int))=(z2:Int):=(by rw[← Int.natCast_mul,← hz2];exact wrapN _ (by omega));obtain⟨r2,hr2⟩:∃ r,r=R1 % y1:=⟨_,rfl⟩
   have x12:(R1:Int) - (z2:Int)=(r2:Int):=(by rw[hz2,hr2,Nat.mul_comm];omega);have hry2:r2 < y1:=(by rw[hr2];exact Nat.mod_lt _ (by omega));have HI2:=Qh (show R1 / y1*y1+r2=R1 by rw[hr2,Nat.mul_comm];exact hmod);rw[← hr2]at HS2;have qy1:((y1:Int) == 0)=false:=(by rw[beq_eq_false_iff_ne];omega);have p3:(R1:Int)≤18446744073709551615:=(by omega);have p4:(z2:Int)≤R1:=(by omega);have HRY:=Qh hRY;clear hmod hz2 hr2 hdm hM1 hM3 hRY hYM hY0;generalize R1 / y1=q2 at *;go_upto_block 2 with fail
   obtain⟨Q0,hQ0e⟩:∃ Q,Q=(R1*4294967296+u0) / (y1*4294967296+y0):=⟨_,rfl⟩
   have HQe2:=Qh hQ0e;rw[← hQ0e]at HQL2 HS2;clear hQ0e x10 x11 x12 hzU2 p4 p3 qy1 y1a y2a y3a y4a;have hQ02:Q0≤q2:=HS2.out.1;go_cut [18] (fun x wc=>QEnd Q0 x wc wc1)
   case first=>
    go_wp2_with fail;go_loopg [18,16] q2 (fun g x rh wr=>QInv Q0 R1 y1 g x rh wr wc1)
    case atStart=>exact⟨q2,r2,rfl,rfl,rfl,hQ02,hqle2,by omega,HI2.out,rfl⟩
    case round=>
     clear hQ02 hqle2 HI2 HS2 hry2;obtain⟨p,d,hg,rfl,rfl,hQ,hqB,hr,hiv,rfl⟩:=hrel;obtain⟨gq,hgq⟩:∃ x,x=gk:=⟨_,rfl⟩
     subst hgq;have HV:=Qh hiv;have HG:=Qh hg;clear hiv hg;have HYES:Hid (4294967296≤p∨4294967296*d+u0 < p*y0→Q0≤p - 1∧1≤p∧(p - 1)*y1+(d+y1)=R1):=Qh (fun ht=>by
      rw[HQe2.out];exact q_yes 4294967296 y1 y0 R1 u0 (by decide) (Nat.lt_of_lt_of_eq HRY.out HY.out) (by omega) HV.out (by rw[← HQe2.out];exact hQ) ht)
     by_cases cB:p < 4294967296
     ·have kB:¬ 4294967296≤(p:Int):=(by omega);obtain⟨A,hA⟩:∃ A,A=p*y0:=⟨_,rfl⟩
      have xa:IntKind.u64.wrap ((p:Int)*(y0:Int))=(A:Int):=by
       rw[← Int.natCast_mul,← hA];refine wrapN _ ?_;have:=Nat.mul_le_mul (show p≤4294967295 by omega) (show y0≤4294967295 by omega);omega
      have HA:=Qh hA;rw[← hA]at HYES;clear hA;by_cases cT:4294967296*d+u0 < A
      ·have kT:4294967296*(d:Int)+(u0:Int) < (A:Int):=(by omega);obtain⟨z1,z2,z3⟩:=HYES.out (.inr cT);have Z3:=Qh z3;have k1:1≤(p:Int):=(by omega);have e1:((p:Int) - 1)=((p - 1:Nat):Int):=(by omega);have E1:=Qh e1;clear z3 e1 HYES;by_cases cR:4294967296≤(d:Int)+(y1:Int)
       ·go_wp2_with fail;go_meet
        case rel=>
         refine⟨?_,rfl⟩;rw[E1.out,HQe2.out]
         congr 2
         exact q_break 4294967296 y1 y0 R1 u0 (by omega) Z3.out (by rw[← HQe2.out];exact z1) (by omega) hy0 (by omega)
       ·go_wp2_with fail;go_roundg (p - 1)
        case measure=>rw[HG.out];omega
        case rel=>exact⟨p - 1,d+y1,rfl,by rw[E1.out],by rw[Int.natCast_add],z1,by omega,by omega,Z3.out,rfl⟩
      ·have kT:¬ 4294967296*(d:Int)+(u0:Int) < (A:Int):=(by omega);clear HYES;go_wp2_with fail;go_meet
       case rel=>
        refine⟨?_,rfl⟩;rw[HQe2.out]
        congr 2
        exact q_no 4294967296 y1 y0 R1 u0 (by omega) HV.out (by rw[← HQe2.out];exact hQ) (by rw[← HA.out];exact cT)
     ·have kB:4294967296≤(p:Int):=(by omega);obtain⟨z1,z2,z3⟩:=HYES.out (.inl (by omega));have Z3:=Qh z3;have k1:1≤(p:Int):=(by omega);have e1:((p:Int) - 1)=((p - 1:Nat):Int):=(by omega);have E1:=Qh e1;clear z3 e1 HYES cB;by_cases cR:4294967296≤(d:Int)+(y1:Int)
      ·go_wp2_with fail;go_meet
       case rel=>
        refine⟨?_,rfl⟩;rw[E1.out,HQe2.out]
        congr 2
        exact q_break 4294967296 y1 y0 R1 u0 (by omega) Z3.out (by rw[← HQe2.out];exact z1) (by omega) hy0 (by omega)
      ·go_wp2_with fail;go_roundg (p - 1)
       case measure=>rw[HG.out];omega
       case rel=>exact⟨p - 1,d+y1,rfl,by rw[E1.out],by rw[Int.natCast_add],z1,by omega,by omega,Z3.out,rfl⟩
   case rest=>
    obtain⟨rfl,rfl⟩:=hcut;clear hQ02 hqle2 HI2 HS2 hry2;have hQ0b:=HQL2.out;have hR1b:R1 < Y:=HRY.out;have hYM:=HD.out.hi1;have hs63:=HD.out.s63;have e3:Q0=(R1*4294967296+u0) / Y:=(by rw[HQe2.out,← HY.out]);obtain⟨R0,hR0⟩:∃ R0,R0=(R1*4294967296+u0) % Y:=⟨_,rfl⟩
    have hdm:=Nat.div_add_mod (R1*4294967296+u0) Y;have hR0b:R0 < Y:=(by rw[hR0];exact Nat.mod_lt _ (by omega));rw[← e3,← hR0]at hdm;have HFIN:=Qh (HE.out Q R1 Q0 R0 HQY.out HR1.out e3 hR0);clear e3 hR0;obtain⟨M1,hM1⟩:∃ M1,M1=R1*4294967296 % 18446744073709551616:=⟨_,rfl⟩
    obtain⟨M3,hM3⟩:∃ M3,M3=Q0*Y % 18446744073709551616:=⟨_,rfl⟩
    have y1a:IntKind.u64.wrap ((R1:Int)*4294967296)=(M1:Int):=(by rw[hM1,← wrapM];simp);have y2a:(M1:Int)+(u0:Int)≤18446744073709551615:=(by omega);have y3a:IntKind.u64.wrap ((Q0:Int)*(Y:Int))=(M3:Int):=(by rw[hM3,← wrapM];simp);have y4a:IntKind.u64.wrap ((M1:Int)+(u0:Int) - (M3:Int))=(R0:Int):=by
     rw[IntKind.wrap_u64];rw[Nat.mul_comm]at hdm;generalize Q0*Y=QY at *;omega
    have HSH:=Qh (show(R0:Int) / 2 ^ s=((R0 / 2 ^ s:Nat):Int)by rw[Int.natCast_ediv];simp);have p3:(R0:Int)≤18446744073709551615:=(by omega);have p6:(Q:Int)≤4294967295:=(by omega);have p7:(Q0:Int)≤4294967295:=(by omega);clear hdm hM1 hM3 hQb hQ0b hR1b hR0b hYM;go_wp2_with fail;go_ret2
    exact⟨by rw[HFIN.out.1,HFIN.out.2];exact ret_pair (by rw[Int.natCast_add,Int.natCast_mul];rfl) HSH.out,0,rfl⟩
end Go.Proofs.YtkblpaabknjckaaGreatDoor
