/-
  Contract of rat's fit.
-/
import Derived.Test.YtkblpaabknjckaaGreatDoorBaseD
import Derived.Test.YtkblpaabknjckaaGreatDoorRows
import Derived.BigQuiet
import Derived.Test.YtkblpaabknjckaaGreatDoorParR
import Derived.Test.YtkblpaabknjckaaGreatDoorShelfV
import Derived.Shelf.Spec.BitsCarry
set_option maxHeartbeats 128000000
set_option linter.unusedVariables false
namespace Go.Proofs.YtkblpaabknjckaaGreatDoor
open Go.Proofs.Tryz
open Go.RowKit
theorem gcd_drew (a b:Nat) (ha:a < 18446744073709551616) (hb:b < 18446744073709551616) (w:World) :
  Calls prog 196 #[.int .u64 a,.int .u64 b] w fun e w'=>e=.returned (.int .u64 (Nat.gcd b a:Nat))∧∃ m,w' = w.drewN m:=by
 obtain⟨g,hg⟩:∃ g,g=Nat.gcd b a:=⟨_,rfl⟩
 rw[← hg];go_enter func196,ntmps196
 go_wp2_with fail;go_loopw [0,1] (fun x y wr=>∃ p q m:Nat,p < 18446744073709551616∧q < 18446744073709551616∧x=.int .u64 (p:Nat)∧y=.int .u64 (q:Nat)∧g=Nat.gcd q p∧wr=w.drewN m) (fun _ y _=>(intOf y).toNat)
 case atStart=>exact⟨a,b,0,ha,hb,rfl,rfl,hg,rfl⟩
 case round=>
  clear hg;obtain⟨p,q,m,hp,hq,rfl,rfl,hg,hb2⟩:=hrel;have HB:=Qh hb2;have HG:=Qh hg;clear hg hb2;by_cases h0:q=0
  ·subst h0;have HP:Hid (g=p):=Qh (by rw[HG.out,Nat.gcd_zero_left]);go_wp2_with fail;go_ret;exact⟨by rw[HP.out];rfl,m,HB.out⟩
  ·have hne:((q:Int) != 0)=true:=(by rw[bne_iff_ne];omega);go_wp2_with fail;go_quiet (fail)
   go_wp2_with fail;go_roundw;case rel=>exact⟨q,p % q,m+nq,hq,Nat.lt_trans (Nat.mod_lt _ (by omega)) hq,rfl,by rw[Int.natCast_emod],by rw[HG.out,Nat.gcd_rec q p],by rw[HB.out,World.drewN_drewN]⟩
   case measure=>
    have:=Nat.mod_lt p (show 0 < q by omega);simp only[intOf];omega
theorem size_any (n:Int) (hn:-9223372036854775808≤n∧n≤9223372036854775807) (w:World) :
  Calls prog 172 #[.int .i64 n] w fun e w'=>e=.returned (.int .u64 (n.natAbs:Nat))∧w' = w:=by
 by_cases h:n < 0
 ·obtain⟨k,hk⟩:∃ k:Nat,n = -(k:Int):=⟨n.natAbs,by omega⟩
  subst hk;have e0:(-(k:Int)).natAbs=k:=(by omega);rw[e0];go_enter func172,ntmps172
  go_wp2
  go_ret;refine⟨?_,rfl⟩;show Ending.returned (.int .u64 _)=Ending.returned (.int .u64 _)
  congr 2
  first|rfl|omega|(unfold IntKind.wrap;simp[IntKind.bits,IntKind.signed];omega)
 ·have e0:(n.natAbs:Int)=n:=(by omega);have E0:=Qh e0;clear e0;go_enter func172,ntmps172
  go_wp2
  go_ret;exact⟨by rw[E0.out];rfl,rfl⟩
def rightB (n d:Int):Bool:=decide (1≤d) && (Nat.gcd d.natAbs n.natAbs == 1)
def In64 (n:Int):Prop:=-9223372036854775808≤n∧n≤9223372036854775807
theorem rightB_iff (n d:Int) (hn:In64 n) (hd:In64 d):rightB n d=true↔RightP n d:=by
 unfold rightB RightP In64 at *;rw[Bool.and_eq_true,decide_eq_true_eq,beq_iff_eq,Nat.gcd_comm];constructor
 ·rintro⟨h1,h2⟩;exact⟨h1,hd.2,hn.1,hn.2,h2⟩
 ·rintro⟨h1,h2,h3,h4,h5⟩;exact⟨h1,h5⟩
theorem right_any (n d:Int) (hn:In64 n) (hd:In64 d) (w:World) :
  Calls prog 171 #[.agg #[.int .i64 n,.int .i64 d]] w fun e w'=>e=.returned (.bool (rightB n d))∧Below w.heap.size w w':=by
 unfold In64 at hn hd;by_cases h1:1≤d
 ·obtain⟨k,rfl⟩:=Int.eq_ofNat_of_zero_le (show 0≤d by omega);have cs:=fun w'=>size_any n hn w'
  have cg:=fun w'=>gcd_drew n.natAbs k (by omega) (by omega) w'
  have HR:Hid (rightB n k=decide (((Nat.gcd k n.natAbs:Nat):Int)=1)):=Qh (by
   unfold rightB;rw[decide_eq_true h1,Bool.true_and,Int.natAbs_natCast,Bool.eq_iff_iff,beq_iff_eq,decide_eq_true_eq];omega)
  rw[HR.out];generalize n.natAbs=a at *;generalize Nat.gcd k a=g at *;go_enter func171,ntmps171
  go_wp2_with fail;go_quiet (first|(go_at_call 172;exact Calls.quiet_of_same (cs _))|(go_at_call 196;exact Calls.quiet_of (cg _)))
  go_wp2_with fail;go_ret;exact⟨rfl,Go.below_drewN ((Below.refl _ _).alloc lrf _) _⟩
 ·have hdd:decide (1≤d)=false:=decide_eq_false h1;have HR:Hid (rightB n d=false):=Qh (by unfold rightB;rw[hdd,Bool.false_and]);rw[HR.out];go_enter func171,ntmps171
  go_wp2_with fail;go_quiet (fail)
  go_wp2_with fail;go_ret;exact⟨rfl,Go.below_drewN ((Below.refl _ _).alloc lrf _) _⟩
def errV (n:Int):Value:=.iface 50 (.int .i64 n)
def ratV (r:Option (Int×Int)):Value:=
 match r with
 | some (n,d)=>.tuple #[.agg #[.int .i64 n,.int .i64 d],.nilIface]
 | none=>.tuple #[.agg #[.int .i64 0,.int .i64 0],errV 9]
theorem fitE_zero (neg:Bool) (D:Nat):fitE neg 0 D=some (0,1):=by unfold fitE;rw[if_pos rfl]
theorem neg_conv (k:Nat) (h:k≤9223372036854775808):wrap64 (IntKind.u64.wrap (-(k:Int))) = -(k:Int):=by
 unfold wrap64 IntKind.wrap;simp[IntKind.bits,IntKind.signed];omega
theorem fit_any (neg:Bool) (N D:Nat) (hN:N < 340282366920938463463374607431768211456) (hD:D < 340282366920938463463374607431768211456) (w:World) :
  Calls prog 155 #[.bool neg,.int .u64 (N / 18446744073709551616:Nat),.int .u64 (N % 18446744073709551616:Nat),.int .u64 (D / 18446744073709551616:Nat),.int .u64 (D % 18446744073709551616:Nat)] w
   fun e w'=>e=.returned (ratV (fitE neg N D))∧Below w.heap.size w w':=by
 have b1:N / 18446744073709551616 < 18446744073709551616:=(by omega);have b2:N % 18446744073709551616 < 18446744073709551616:=(by omega);have b3:D / 18446744073709551616 < 18446744073709551616:=(by omega);have b4:D % 18446744073709551616 < 18446744073709551616:=(by omega);have HN:=Qh (show N=N / 18446744073709551616*18446744073709551616+N % 18446744073709551616 by omega);have HD:=Qh (show D=D / 18446744073709551616*18446744073709551616+D % 18446744073709551616 by omega);generalize N / 18446744073709551616=nh at *;generalize N % 18446744073709551616=nl at *;generalize D / 18446744073709551616=dh at *;generalize D % 18446744073709551616=dl at *;have nz:∀ z:Nat,z≠0→((z:Int) == 0)=false∧((z:Int) != 0)=true:=fun z h=>by
  rw[bne_iff_ne,beq_eq_false_iff_ne];omega
 have big:∀ z:Nat,z < 18446744073709551616→0≤(z:Int)∧(z:Int)≤18446744073709551615:=fun z h=>by omega
 obtain⟨n1,n2⟩:=big nh b1;obtain⟨n3,n4⟩:=big nl b2;obtain⟨n5,n6⟩:=big dh b3;obtain⟨n7,n8⟩:=big dl b4;clear big;by_cases hz:nh=0∧nl=0
 ·obtain⟨rfl,rfl⟩:=hz;have HF:Hid (fitE neg N D=some (0,1)):=Qh (by rw[HN.out];exact fitE_zero _ _);rw[HF.out];clear nz;go_enter func155,ntmps155
  go_wp2_with fail;exact bodyPost_ret (v:=.tuple #[.agg #[.int .i64 0,.int .i64 1],.nilIface]) (by simp[results,results155,go_sem]) rfl ⟨rfl,(Below.refl _ _).alloc lrf _⟩
 ·have hN0:N≠0:=(by have:=HN.out;omega);by_cases hov:9223372036854775807 < D∨9223372036854775808 < N∨(N=9223372036854775808∧neg=false)
  ·have HF:Hid (fitE neg N D=none):=Qh (by unfold fitE;rw[if_neg hN0,if_pos hov]);rw[HF.out];have HD':=HD.out;have HN':=HN.out;by_cases c1:nh=0
   ·subst c1;obtain⟨q1,q2⟩:=nz nl (by omega);by_cases c2:dh=0
    ·subst c2;by_cases c3:9223372036854775807 < dl
     ·have k3:9223372036854775807 < (dl:Int):=(by omega);clear HN' HD' hov hz hN0 nz;go_enter func155,ntmps155
      go_wp2_with fail;exact bodyPost_ret (v:=.tuple #[.agg #[.int .i64 0,.int .i64 0],errV 9]) (by simp[results,results155,go_sem,errV]) rfl ⟨rfl,(Below.refl _ _).alloc lrf _⟩
     ·have k3:¬ 9223372036854775807 < (dl:Int):=(by omega);by_cases c4:9223372036854775808 < nl
      ·have k4:9223372036854775808 < (nl:Int):=(by omega);clear HN' HD' hov hz hN0 nz;go_enter func155,ntmps155
       go_wp2_with fail;exact bodyPost_ret (v:=.tuple #[.agg #[.int .i64 0,.int .i64 0],errV 9]) (by simp[results,results155,go_sem,errV]) rfl ⟨rfl,(Below.refl _ _).alloc lrf _⟩
      ·have k4:¬ 9223372036854775808 < (nl:Int):=(by omega);obtain⟨hnl,rfl⟩:nl=9223372036854775808∧neg=false:=by
        rcases hov with h|h|⟨h1,h2⟩
        ·omega
        ·omega
        ·exact⟨by omega,h2⟩
       have k5:((nl:Int) == 9223372036854775808)=true:=(by rw[beq_iff_eq];omega);clear HN' HD' hov hz hN0 nz hnl;go_enter func155,ntmps155
       go_wp2_with fail;exact bodyPost_ret (v:=.tuple #[.agg #[.int .i64 0,.int .i64 0],errV 9]) (by simp[results,results155,go_sem,errV]) rfl ⟨rfl,(Below.refl _ _).alloc lrf _⟩
    ·obtain⟨q3,q4⟩:=nz dh c2;clear HN' HD' hov hz hN0 nz;go_enter func155,ntmps155
     go_wp2_with fail;exact bodyPost_ret (v:=.tuple #[.agg #[.int .i64 0,.int .i64 0],errV 9]) (by simp[results,results155,go_sem,errV]) rfl ⟨rfl,(Below.refl _ _).alloc lrf _⟩
   ·obtain⟨q1,q2⟩:=nz nh c1;clear HN' HD' hov hz hN0 nz;go_enter func155,ntmps155
    go_wp2_with fail;exact bodyPost_ret (v:=.tuple #[.agg #[.int .i64 0,.int .i64 0],errV 9]) (by simp[results,results155,go_sem,errV]) rfl ⟨rfl,(Below.refl _ _).alloc lrf _⟩
  ·have HF:Hid (fitE neg N D=some (sgn neg N,(D:Int))):=Qh (by unfold fitE;rw[if_neg hN0,if_neg hov]);rw[HF.out];have HD':=HD.out;have HN':=HN.out;obtain rfl:nh=0:=by omega
   obtain rfl:dh=0:=by omega
   obtain⟨q1,q2⟩:=nz nl (by omega);have k3:¬ 9223372036854775807 < (dl:Int):=(by omega);have k4:¬ 9223372036854775808 < (nl:Int):=(by omega);have HND:Hid (N=nl∧D=dl):=Qh (by omega);have HC:=Qh (neg_conv nl (by omega));cases neg
   ·have k5:((nl:Int) == 9223372036854775808)=false:=by
     rw[beq_eq_false_iff_ne];intro h;exact hov (.inr (.inr ⟨by omega,rfl⟩))
    have k6:(nl:Int)≤9223372036854775807:=(by rw[beq_eq_false_iff_ne]at k5;omega);clear HN' HD' hov hz hN0 nz;go_enter func155,ntmps155
    go_wp2_with fail;exact bodyPost_ret (v:=.tuple #[.agg #[.int .i64 nl,.int .i64 dl],.nilIface]) (by simp[results,results155,go_sem]) rfl ⟨by rw[HND.out.1,HND.out.2];rfl,(Below.refl _ _).alloc lrf _⟩
   ·clear HN' HD' hov hz hN0 nz;by_cases c5:(nl:Int)=9223372036854775808
    ·have k5:((nl:Int) == 9223372036854775808)=true:=(by rw[beq_iff_eq];omega);clear c5;go_enter func155,ntmps155
     go_wp2_with fail;exact bodyPost_ret (v:=.tuple #[.agg #[.int .i64 (wrap64 (IntKind.u64.wrap (-(nl:Int)))),.int .i64 dl],.nilIface]) (by simp[results,results155,go_sem]) rfl ⟨by rw[HC.out,HND.out.1,HND.out.2];rfl,(Below.refl _ _).alloc lrf _⟩
    ·have k5:((nl:Int) == 9223372036854775808)=false:=(by rw[beq_eq_false_iff_ne];omega);clear c5;go_enter func155,ntmps155
     go_wp2_with fail;exact bodyPost_ret (v:=.tuple #[.agg #[.int .i64 (wrap64 (IntKind.u64.wrap (-(nl:Int)))),.int .i64 dl],.nilIface]) (by simp[results,results155,go_sem]) rfl ⟨by rw[HC.out,HND.out.1,HND.out.2];rfl,(Below.refl _ _).alloc lrf _⟩
end Go.Proofs.YtkblpaabknjckaaGreatDoor
