/-
  Contract of rat's fit.
-/
import Derived.Test.YtfflljgnpfldfaaGreatDoorRows
import Derived.Test.YtfflljgnpfldfaaGreatDoorParR
import Derived.Test.YtfflljgnpfldfaaGreatDoorShelfV
import Derived.Shelf.Spec.BitsCarry
set_option linter.all false
set_option maxHeartbeats 128000000
namespace Go.Proofs.YtfflljgnpfldfaaGreatDoor
open Go.Proofs.Tryz
open Go.RowKit
theorem Z0 (a b:Nat) (ha:a < 18446744073709551616) (hb:b < 18446744073709551616) (w:World) :
  Calls prog 276 #[.int .u64 a,.int .u64 b] w fun e w'=>e=.returned (.int .u64 (Nat.gcd b a:Nat))∧∃ m,w' = w.drewN m:=by
 obtain⟨g,hg⟩:∃ g,g=Nat.gcd b a:=⟨_,rfl⟩
 rw[← hg];go_enter func276,ntmps276
 go_wp2_with fail;go_loopw [0,1] (fun x y wr=>∃ p q m:Nat,p < 18446744073709551616∧q < 18446744073709551616∧x=.int .u64 (p:Nat)∧y=.int .u64 (q:Nat)∧g=Nat.gcd q p∧wr=w.drewN m) (fun _ y _=>(intOf y).toNat)
 case atStart=>exact⟨a,b,0,ha,hb,rfl,rfl,hg,rfl⟩
 case round=>
  clear hg;obtain⟨p,q,m,hp,hq,rfl,rfl,hg,hb2⟩:=hrel;have HB:=Qh hb2;have HG:=Qh hg;clear hg hb2;by_cases h0:q=0
  ·subst h0;have HP:Hid (g=p):=Qh (by rw[HG.o,Nat.gcd_zero_left]);go_wp2_with fail;go_ret;exact⟨by rw[HP.o];rfl,m,HB.o⟩
  ·have hne:((q:Int) != 0)=true:=vH;go_wp2_with fail;go_quiet (fail)
   go_wp2_with fail;go_roundw;case rel=>exact⟨q,p % q,m+nq,hq,Nat.lt_trans (ic _ ae) hq,rfl,by rw[Int.natCast_emod],by rw[HG.o,Nat.gcd_rec q p],by rw[HB.o,World.drewN_drewN]⟩
   case measure=>
    have:=ic p (show 0 < q by omega);simp only[intOf];omega
theorem Z3 (n:Int) (hn:-9223372036854775808≤n∧n≤9223372036854775807) (w:World) :
  Calls prog 272 #[.int .i64 n] w fun e w'=>e=.returned (.int .u64 (n.natAbs:Nat))∧w' = w:=by
 by_cases h:n < 0
 ·obtain⟨k,hk⟩:∃ k:Nat,n = -(k:Int):=⟨n.natAbs,ae⟩
  subst hk;have e0:(-(k:Int)).natAbs=k:=ae;rw[e0];go_enter func272,ntmps272
  go_wp2
  go_ret;refine⟨?_,rfl⟩;show Ending.returned (.int .u64 _)=Ending.returned (.int .u64 _)
  congr 2
  first|rfl|omega|(unfold IntKind.wrap;simp[IntKind.bits,IntKind.signed];omega)
 ·have e0:(n.natAbs:Int)=n:=ae;have E0:=Qh e0;clear e0;go_enter func272,ntmps272
  go_wp2
  go_ret;exact⟨by rw[E0.o];rfl,rfl⟩
def oV (n d:Int):Bool:=decide (1≤d) && (Nat.gcd d.natAbs n.natAbs == 1)
def In64 (n:Int):Prop:=-9223372036854775808≤n∧n≤9223372036854775807
theorem La (n d:Int) (hn:In64 n) (hd:In64 d):oV n d=true↔En n d:=by
 unfold oV En In64 at *;rw[uF,rR,dZ,Nat.gcd_comm];constructor
 ·rintro⟨h1,h2⟩;exact⟨h1,hd.2,hn.1,hn.2,h2⟩
 ·rintro⟨h1,h2,h3,h4,h5⟩;exact⟨h1,h5⟩
theorem OM (n d:Int) (hn:In64 n) (hd:In64 d) (w:World) :
  Calls prog 270 #[.agg #[.int .i64 n,.int .i64 d]] w fun e w'=>e=.returned (.bool (oV n d))∧Below w.heap.size w w':=by
 unfold In64 at hn hd;by_cases h1:1≤d
 ·obtain⟨k,rfl⟩:=Iy (show 0≤d by omega);have cs:=fun w'=>Z3 n hn w'
  have cg:=fun w'=>Z0 n.natAbs k ae ae w'
  have HR:Hid (oV n k=decide (((Nat.gcd k n.natAbs:Nat):Int)=1)):=Qh (by
   unfold oV;rw[fy h1,Bool.true_and,IG,Fy,dZ,rR];omega)
  rw[HR.o];generalize n.natAbs=a at *;generalize Nat.gcd k a=g at *;go_enter func270,ntmps270
  go_wp2_with fail;go_quiet (first|(go_at_call 272;exact Calls.quiet_of_same (cs _))|(go_at_call 276;exact Calls.quiet_of (cg _)))
  exact ach
 ·have hdd:decide (1≤d)=false:=dU h1;have HR:Hid (oV n d=false):=Qh (by unfold oV;rw[hdd,Bool.false_and]);rw[HR.o];go_enter func270,ntmps270
  go_wp2_with fail;go_quiet (fail)
  exact ach
def dE (n:Int):Value:=.iface 100 (.int .i64 n)
def kT (r:Option (Int×Int)):Value:=
 match r with
 | some (n,d)=>.tuple #[.agg #[.int .i64 n,.int .i64 d],.nilIface]
 | none=>.tuple #[.agg #[.int .i64 0,.int .i64 0],dE 9]
theorem afh (neg:Bool) (D:Nat):ld neg 0 D=some (0,1):=by unfold ld;rw[if_pos rfl]
theorem arz (k:Nat) (h:k≤9223372036854775808):wrap64 (IntKind.u64.wrap (-(k:Int))) = -(k:Int):=by
 unfold wrap64 IntKind.wrap;simp[IntKind.bits,IntKind.signed];omega
theorem Yi (neg:Bool) (N D:Nat) (hN:N < 340282366920938463463374607431768211456) (hD:D < 340282366920938463463374607431768211456) (w:World) :
  Calls prog 221 #[.bool neg,.int .u64 (N / 18446744073709551616:Nat),.int .u64 (N % 18446744073709551616:Nat),.int .u64 (D / 18446744073709551616:Nat),.int .u64 (D % 18446744073709551616:Nat)] w
   fun e w'=>e=.returned (kT (ld neg N D))∧Below w.heap.size w w':=by
 have b1:N / 18446744073709551616 < 18446744073709551616:=ae;have b2:N % 18446744073709551616 < 18446744073709551616:=ae;have b3:D / 18446744073709551616 < 18446744073709551616:=ae;have b4:D % 18446744073709551616 < 18446744073709551616:=ae;have HN:=Qh (show N=N / 18446744073709551616*18446744073709551616+N % 18446744073709551616 by omega);have HD:=Qh (show D=D / 18446744073709551616*18446744073709551616+D % 18446744073709551616 by omega);generalize N / 18446744073709551616=nh at *;generalize N % 18446744073709551616=nl at *;generalize D / 18446744073709551616=dh at *;generalize D % 18446744073709551616=dl at *;have nz:∀ z:Nat,z≠0→((z:Int) == 0)=false∧((z:Int) != 0)=true:=fun z h=>by
  rw[bne_iff_ne,gT];omega
 have big:∀ z:Nat,z < 18446744073709551616→0≤(z:Int)∧(z:Int)≤18446744073709551615:=fun z h=>ae
 obtain⟨n1,n2⟩:=big nh b1;obtain⟨n3,n4⟩:=big nl b2;obtain⟨n5,n6⟩:=big dh b3;obtain⟨n7,n8⟩:=big dl b4;clear big;by_cases hz:nh=0∧nl=0
 ·obtain⟨rfl,rfl⟩:=hz;have HF:Hid (ld neg N D=some (0,1)):=Qh (by rw[HN.o];exact afh _ _);rw[HF.o];clear nz;go_enter func221,ntmps221
  go_wp2_with fail;exact bB (v:=.tuple #[.agg #[.int .i64 0,.int .i64 1],.nilIface]) (by simp[results,results221,go_sem]) rfl ⟨rfl,(aC _ _).alloc af _⟩
 ·have Av:N≠0:=(by have:=HN.o;omega);by_cases jM:9223372036854775807 < D∨9223372036854775808 < N∨(N=9223372036854775808∧neg=false)
  ·have HF:Hid (ld neg N D=none):=Qh (by unfold ld;rw[if_neg Av,if_pos jM]);rw[HF.o];have EF:=HD.o;have EG:=HN.o;by_cases c1:nh=0
   ·subst c1;obtain⟨q1,q2⟩:=nz nl ae;by_cases c2:dh=0
    ·subst c2;by_cases c3:9223372036854775807 < dl
     ·have k3:9223372036854775807 < (dl:Int):=ae;clear EG EF jM hz Av nz;exact KU
     ·have k3:¬ 9223372036854775807 < (dl:Int):=ae;by_cases c4:9223372036854775808 < nl
      ·have k4:9223372036854775808 < (nl:Int):=ae;clear EG EF jM hz Av nz;exact KU
      ·have k4:¬ 9223372036854775808 < (nl:Int):=ae;obtain⟨hnl,rfl⟩:nl=9223372036854775808∧neg=false:=by
        rcases jM with h|h|⟨h1,h2⟩
        ·omega
        ·omega
        ·exact⟨ae,h2⟩
       have k5:((nl:Int) == 9223372036854775808)=true:=Dc;clear EG EF jM hz Av nz hnl;exact KU
    ·obtain⟨q3,q4⟩:=nz dh c2;clear EG EF jM hz Av nz;exact KU
   ·obtain⟨q1,q2⟩:=nz nh c1;clear EG EF jM hz Av nz;exact KU
  ·have HF:Hid (ld neg N D=some (fh neg N,(D:Int))):=Qh (by unfold ld;rw[if_neg Av,if_neg jM]);rw[HF.o];have EF:=HD.o;have EG:=HN.o;obtain rfl:nh=0:=by omega
   obtain rfl:dh=0:=ae
   obtain⟨q1,q2⟩:=nz nl ae;have k3:¬ 9223372036854775807 < (dl:Int):=ae;have k4:¬ 9223372036854775808 < (nl:Int):=ae;have OJ:Hid (N=nl∧D=dl):=Qh ae;have HC:=Qh (arz nl ae);cases neg
   ·have k5:((nl:Int) == 9223372036854775808)=false:=by
     refine C9 ?_;intro h;exact jM (.inr (.inr ⟨ae,rfl⟩))
    have k6:(nl:Int)≤9223372036854775807:=(by rw[gT]at k5;omega);clear EG EF jM hz Av nz;go_enter func221,ntmps221
    go_wp2_with fail;exact bB (v:=.tuple #[.agg #[.int .i64 nl,.int .i64 dl],.nilIface]) (by simp[results,results221,go_sem]) rfl ⟨by rw[OJ.o.1,OJ.o.2];rfl,(aC _ _).alloc af _⟩
   ·clear EG EF jM hz Av nz;by_cases c5:(nl:Int)=9223372036854775808
    ·have k5:((nl:Int) == 9223372036854775808)=true:=Dc;clear c5;exact aa6
    ·have k5:((nl:Int) == 9223372036854775808)=false:=ft;clear c5;exact aa6
end Go.Proofs.YtfflljgnpfldfaaGreatDoor
