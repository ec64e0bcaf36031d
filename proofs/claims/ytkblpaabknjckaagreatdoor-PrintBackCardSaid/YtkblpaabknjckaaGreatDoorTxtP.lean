/-
  rat's tenfold, Print: contracts.
-/
import Derived.Test.YtkblpaabknjckaaGreatDoorRows
import Derived.Test.YtkblpaabknjckaaGreatDoorBaseD
import Derived.Test.YtkblpaabknjckaaGreatDoorShelfV
import Derived.Test.YtkblpaabknjckaaGreatDoorParR
import Derived.Lib.AppendIntMem
import Derived.Lib.ItoaMem
import Derived.Test.YtkblpaabknjckaaGreatDoorRatE
import Derived.BigQuiet
import Derived.Laws.IdiomStrings
import Derived.WalkLawsBesides
import Derived.Deep.CutBlock
import Derived.Deep.DeepCutAuto
import Derived.Test.YtkblpaabknjckaaGreatDoorCalm
import Derived.StillTailTactics
import Derived.WalkSmall
import Derived.Laws.BitsAllLaws
import Derived.Deep.LoopGhost
import Derived.Test.YtkblpaabknjckaaGreatDoorRatD
set_option maxHeartbeats 128000000
set_option linter.unusedVariables false
namespace Go.Proofs.YtkblpaabknjckaaGreatDoor
open Go.RowKit
def enByte (b:UInt8):List Value:=[.int .u8 (b.toNat:Int)]
theorem enByte_len (b:UInt8):(enByte b).length=1:=rfl
open Go.Proofs.Tryz
open Go.RowKit Go.Sort
def PowTab (w : World) : Prop := Lib.TabIs prog w "internal/strconv.uint64pow10" .u64 Lib.pow10Tab
theorem below_growN (w:World) (k:Nat) (os:Array Obj):Below w.heap.size w (grow (w.drewN k) os):=by
 have h:Below w.heap.size w (w.drewN k):=(Below.refl w.heap.size w).trans ⟨rfl,rfl,rfl,lrf,fun _ _=>rfl⟩;refine⟨h.os,h.tape,h.output,?_,fun j hj=>?_⟩
 ·simp[grow]
 ·rw[← h.block j hj];simp only[grow];rw[Array.getElem?_append_left (by simpa using hj)]
set_option maxRecDepth 100000 in theorem ifmtUint_any (u : Nat) (hu : u < 18446744073709551616) (w : World) (htab : PowTab w) :
  Calls prog 143 #[.int .u64 u,.int .i64 10] w fun e w'=>e=.returned (.string ⟨(Lib.decDigits u).toArray⟩)∧Below w.heap.size w w':=by
 unfold PowTab at htab;by_cases hs:(u:Int) < 100
 ·have c:=Tryz.internal_strconv_small u (by omega);go_enter func143,ntmps143
  go_wp2_with fail;with_reducible refine(c _).mono ?_
  rintro e w' ⟨rfl,rfl⟩;go_wp2_with fail;go_ret;exact⟨rfl,Below.refl _ _⟩
 ·have hnd20:Lib.nDigits u≤20:=(by have:=Lib.numDigits_eq u (by omega) hu;split at this<;>omega);have hb3:Lib.nDigits u≤24:=(by omega);have cn:=fun W htab=>Tryz.internal_strconv_numDigits u (by omega) hu W htab
  have hH0:=Lib.holds_zero0 w 213 (Lib.nDigits u) hb3;have hfmt:=Tryz.internal_strconv_formatBase10 w.heap.size 0 24 u (Array.replicate (Lib.nDigits u) 0) (w.alloc (.cells Lib.zeros24 213)) hH0 (by rw[Array.size_replicate];exact Lib.lt_pow_nDigits u) hu (by rw[Array.size_replicate];omega);rw[Array.size_replicate]at hfmt;have hal:prog.arrayLen 213=24:=(by kernel_rfl);have hsl:∀ W,(Instr.sliceAt 213 (.pointer (some ⟨w.heap.size,0,none⟩)) none (some (.int .i64 (Lib.nDigits u:Int))) none).run prog W=.ok (.slice (some ⟨w.heap.size,0,none⟩) (Lib.nDigits u) 24) W:=fun W=>by
   rw[run_sliceAt_array_h W 213 ⟨w.heap.size,0,none⟩ (by kernel_rfl) .i64 (Lib.nDigits u:Int) (by omega) (by rw[hal];omega)];go_simp
  clear hal;have HH0:=Qh hH0;clear hH0;go_enter func143,ntmps143
  go_wp2_with fail;refine(cn _ (Lib.tabIs_alloc htab _)).mono ?_;rintro e w' ⟨rfl,rfl⟩;go_wp2_with fail;refine hfmt.mono ?_;rintro e w' ⟨rfl,k,v',dk,rfl,hF⟩;have hcv:(convert 172 9 (.slice (some ⟨w.heap.size,0,none⟩) (Lib.nDigits u) 24)).run prog ((putRow (fun (b:UInt8)=>Value.int .u8 (b.toNat:Int)) (w.alloc (.cells Lib.zeros24 213)) w.heap.size 0 dk).drewN k)=.ok (.string ⟨(Lib.decDigits u).toArray⟩) ((putRow (fun (b:UInt8)=>Value.int .u8 (b.toNat:Int)) (w.alloc (.cells Lib.zeros24 213)) w.heap.size 0 dk).drewN k):=by
   have h:=run_convert_bytes_back (P:=prog) ((putRow (fun (b:UInt8)=>Value.int .u8 (b.toNat:Int)) (w.alloc (.cells Lib.zeros24 213)) w.heap.size 0 dk).drewN k) 172 9 5 ⟨w.heap.size,0,none⟩ 24 (Lib.decDigits u) underlying172 underlying5 underlying9 (fun j hj=>by
    rw[Lib.row_is_numeral hF j hj,Lib.add_plain,World.cell?_drewN];exact cell?_putRow (fun (b:UInt8)=>Value.int .u8 (b.toNat:Int)) _ w.heap.size 0 _ dk HH0.out (by rw[hF.size,Array.size_replicate]) j (by rw[hF.size];rw[Lib.decDigits_length]at hj;exact hj))
   rw[Lib.decDigits_length]at h;exact h
  obtain⟨os,eo⟩:=Lib.fin_at w (.cells Lib.zeros24 213) dk k 0;have HBB:=Qh (show Below w.heap.size w ((putRow (fun (b:UInt8)=>Value.int .u8 (b.toNat:Int)) (w.alloc (.cells Lib.zeros24 213)) w.heap.size 0 dk).drewN k)by rw[eo];exact below_growN w k os);clear eo hfmt cn;go_wp2_with fail;go_ret;exact⟨rfl,HBB.out⟩
theorem fmtUint_any (u:Nat) (hu:u < 18446744073709551616) (w:World) (htab:PowTab w) :
  Calls prog 113 #[.int .u64 u,.int .i64 10] w fun e w'=>e=.returned (.string ⟨(Lib.decDigits u).toArray⟩)∧Below w.heap.size w w':=by
 have c:=ifmtUint_any u hu w htab;clear htab;go_enter func113,ntmps113
 go_wp2_with fail;refine c.mono ?_;rintro e w' ⟨rfl,hb⟩;go_wp2_with fail;go_ret;exact⟨rfl,hb⟩
theorem strA (A B:List UInt8):(⟨A.toArray⟩:ByteArray)++⟨B.toArray⟩=⟨(A++B).toArray⟩:=by
 apply ByteArray.ext;simp
set_option maxRecDepth 100000 in theorem tenfold_any (r d : Nat) (hr : r < d) (hd : d ≤ 9223372036854775808) (w : World) :
  Calls prog 173 #[.int .u64 r,.int .u64 d] w fun e w'=>e=.returned (.tuple #[.int .u64 (10*r / d:Nat),.int .u64 (10*r % d:Nat)])∧∃ m,w' = w.drewN m:=by
 have cm:∀ w,Calls prog 197 #[.int .u64 r,.int .u64 10] w fun e w'=>e=.returned (.tuple #[.int .u64 ((r*10 / 18446744073709551616:Nat):Int),.int .u64 ((r*10 % 18446744073709551616:Nat):Int)])∧w' = w:=fun w=>Tryz.bits_Mul64 r 10 (by omega) (by omega) w
 have hsum:r*10 / 18446744073709551616*18446744073709551616+r*10 % 18446744073709551616=10*r:=(by omega);have cd:=div64_any (r*10 / 18446744073709551616) (r*10 % 18446744073709551616) d (by omega) (by omega) (by omega);rw[hsum]at cd;generalize r*10 / 18446744073709551616=h at *;generalize r*10 % 18446744073709551616=l at *;clear hsum;go_enter func173,ntmps173
 go_wp2_with fail;with_reducible refine(cm _).mono ?_
 rintro e w1 ⟨rfl,rfl⟩;clear cm;go_wp2_with fail;with_reducible refine(cd _).mono ?_
 rintro e w2 ⟨rfl,m,rfl⟩;clear cd;go_wp2_with fail;go_ret2
 exact⟨rfl,m,rfl⟩
theorem bdrew {B:Nat} {a w:World} (h:Below B a w) (n:Nat):Below B a (w.drewN n):=h.trans ⟨rfl,rfl,rfl,lrf,fun _ _=>rfl⟩
theorem powGlobal : prog.globalNamed "internal/strconv.uint64pow10" = some 4 := by kernel_rfl
theorem PowTab.keep {w w':World} (h:PowTab w) (hb:Below w.heap.size w w'):PowTab w':=by
 unfold PowTab Lib.TabIs World.var? at h ⊢;rw[powGlobal]at h ⊢;simp only[Option.bind_some]at h ⊢;have hlt:4 < w.heap.size:=by
  rcases Nat.lt_or_ge 4 w.heap.size with h' | h'
  ·exact h'
  ·rw[Array.getElem?_eq_none h']at h;cases h
 rw[hb.block _ hlt];exact h
def sgnL (n:Int):List UInt8:=if n < 0 then [45] else []
def bodyL (A d:Nat):List UInt8:=
 if restN d=1 then (if d=1 then Lib.decDigits A else Lib.decDigits (A / d)++46::longD (placesN d) (A % d) d) else Lib.decDigits A++47::Lib.decDigits d
def printL (n:Int) (d:Nat):List UInt8:=sgnL n++bodyL n.natAbs d
theorem dec_len64 {u:Nat} (h:u < 18446744073709551616):(Lib.decDigits u).length≤20:=dec_len_le u 20 (Nat.lt_of_lt_of_le h (by decide)) (by decide)
theorem places_le {d:Nat} (h1:0 < d) (h2:d≤9223372036854775807):placesN d≤62:=by
 have k2:=cnt_lt 2 d 63 (by decide) h1 (by omega);have s2:=strip_spec 2 d (by decide) h1;have hle2:stripN 2 d≤d:=by
  conv=>rhs;rw[s2.1]
  exact Nat.le_mul_of_pos_left _ (Nat.pow_pos (by decide))
 have k5:=cnt_lt 5 (stripN 2 d) 63 (by decide) s2.2.2 (Nat.lt_of_le_of_lt hle2 (by omega));unfold placesN;omega
theorem conv_dig:∀ (q:Nat) (h:q < 10) (w:World),(convert 21 9 (.int .i32 (48+(q:Int)))).run prog w=.ok (.string ⟨#[dgt q]⟩) w
 | 0,_,w=>by kernel_rfl
 | 1,_,w=>by kernel_rfl
 | 2,_,w=>by kernel_rfl
 | 3,_,w=>by kernel_rfl
 | 4,_,w=>by kernel_rfl
 | 5,_,w=>by kernel_rfl
 | 6,_,w=>by kernel_rfl
 | 7,_,w=>by kernel_rfl
 | 8,_,w=>by kernel_rfl
 | 9,_,w=>by kernel_rfl
 | n+10,h,w=>absurd h (by omega)
def lenS:Value→Nat
 | .string b=>b.size
 | _=>0
theorem str_snoc (l:List UInt8) (c:UInt8):(⟨l.toArray⟩:ByteArray)++⟨#[c]⟩=⟨(l++[c]).toArray⟩:=strA l [c]
set_option maxRecDepth 100000 in theorem print_any (n d : Int) (h1 : In64 n) (h2 : In64 d) (w : World) (hp : PowTab w) :
  Calls prog 144 #[.agg #[.int .i64 n,.int .i64 d]] w fun e w'=>
   e=.returned (if rightB n d then .tuple #[.string ⟨(printL n d.natAbs).toArray⟩,.nilIface] else .tuple #[.string ⟨#[]⟩,errV 1])∧Below w.heap.size w w':=by
 have ca:=right_any n d h1 h2;have hbx:=box1 w #[.int .i64 n,.int .i64 d] 87;obtain⟨ta,hsz,hbw⟩:=hbx;have TA:=Qh ta;have HBW:=Qh hbw;clear ta hsz hbw;cases hr:rightB n d
 ·rw[hr]at ca;go_enter func144,ntmps144
  go_wp2_with fail;with_reducible refine(ca _).mono ?_
  rintro e w1 ⟨rfl,hb1⟩;have HW1:=Qh (bstep HBW.out hb1 lrf);clear hb1 ca;go_wp2_with fail;go_ret2
  exact⟨rfl,HW1.out⟩
 ·rw[hr]at ca;obtain⟨a1,a2,a3,a4,a5⟩:=(rightB_iff n d h1 h2).1 hr;clear hr h1 h2;have cs:=size_any n ⟨a3,a4⟩;obtain⟨D,rfl⟩:=Int.eq_ofNat_of_zero_le (show 0≤d by omega);obtain⟨V,hV⟩:∃ V,V=printL n (D:Int).natAbs:=⟨_,rfl⟩
  rw[if_pos rfl,← hV];rw[Int.natAbs_natCast]at hV a5;have HP:=Qh (hp.keep HBW.out);clear hp;have hA:n.natAbs < 18446744073709551616:=(by omega);unfold printL at hV;generalize n.natAbs=A at *;have HV:=Qh hV;have HG:=Qh a5;clear hV a5;have hD1:1≤D:=(by omega);have hD2:D≤9223372036854775807:=(by omega);clear a1 a2;have cF:=fun (u:Nat) (hu:u≤A) w hp=>fmtUint_any u (by omega) w hp
  have cE:=fun w hp=>fmtUint_any D (by omega) w hp
  go_enter func144,ntmps144
  go_wp2_with fail;with_reducible refine(ca _).mono ?_
  rintro e w1 ⟨rfl,hb1⟩;have HW1:=Qh (bstep HBW.out hb1 lrf);replace HP:=Qh (HP.out.keep hb1);obtain⟨f0,f1,f2,f3⟩:=(TA.out.keep hb1 lrf).two;clear hb1 ca f2 f3;go_wp2_with fail;go_quiet ((go_at_call 172;exact(cs _).mono fun e w1 ⟨he,hw⟩=>⟨he,_,hw⟩))
  clear cs;have v1:IntKind.u64.wrap ((A:Int) / (D:Int))=((A / D:Nat):Int):=by
   rw[← Int.natCast_ediv];exact wrapN _ (Nat.lt_of_le_of_lt (Nat.div_le_self _ _) hA)
  have hDz:¬ D=0:=(by omega);have hq1A:A / D≤A:=Nat.div_le_self _ _;obtain⟨q1,hq1⟩:∃ q,q=A / D:=⟨_,rfl⟩
  rw[← hq1]at v1 hq1A;have HQ1:=Qh hq1;clear hq1;go_upto_if 24 with (fail)
  go_cut [6] (fun x wc=>x=.string ⟨(sgnL n).toArray⟩∧wc=w1.drewN nq)
  case first=>
   by_cases hn:n < 0
   ·have HS:=Qh (show sgnL n=[45]from if_pos hn);go_wp2_with fail;go_meet
    case rel=>exact⟨by rw[HS.out],rfl⟩
   ·have HS:=Qh (show sgnL n=[]from if_neg hn);go_wp2_with fail;go_meet
    case rel=>exact⟨by rw[HS.out],rfl⟩
  case rest=>
   obtain⟨rfl,rfl⟩:=hcut;have hSl:(sgnL n).length≤1:=(by unfold sgnL;split<;>decide);have HW2:=Qh (bdrew HW1.out nq);have HP2:=Qh (HP.out.keep (bdrew (Below.refl _ _) nq));generalize sgnL n=S at *;clear a3 a4 f0 f1 HW1 HP TA HBW;generalize w1.drewN nq=w2 at *;have hw1l:=dec_len64 (show q1 < 18446744073709551616 from Nat.lt_of_le_of_lt hq1A hA);have c1:=cF q1 hq1A w2 HP2.out;have HV1:=Qh (show restN D=1→D≠1→V=S++Lib.decDigits q1++46::longD (placesN D) (A % D) D from fun g1 g2=>by
    rw[HV.out,HQ1.out];unfold bodyL;rw[if_pos g1,if_neg g2,List.append_assoc])
   have HV2:=Qh (show D=1→V=S++Lib.decDigits q1 from fun g=>by
    rw[HV.out,HQ1.out,g];unfold bodyL;rw[if_pos (show restN 1=1 by decide +kernel),if_pos rfl,Nat.div_one])
   generalize Lib.decDigits q1=Q at *;have st1:=strA S Q;have hl1:¬ 9223372036854775807 < S.length+Q.length:=(by omega);go_wp2_with fail;(with_reducible refine c1.mono ?_);rintro e w3 ⟨rfl,hb3⟩;have HW3:=Qh (bstep HW2.out hb3 lrf);have HP3:=Qh (HP2.out.keep hb3);clear c1 hb3 HP2 HW2;by_cases hone:D=1
   ·have HE:=Qh (HV2.out hone);have hone':(D:Int)=1:=(by omega);clear hone;go_wp2_with fail;go_ret2
    exact⟨by rw[HE.out];rfl,HW3.out⟩
   ·have hone':((D:Int) == 1)=false:=(by rw[beq_eq_false_iff_ne];omega);go_wp2_with fail;go_loopw [8] (fun x wr=>∃ m:Nat,x=.int .u64 (m:Nat)∧0 < m∧m≤D∧stripN 2 D=stripN 2 m∧wr=w3) (fun x _=>(intOf x).toNat)
    case atStart=>exact⟨D,rfl,hD1,lrf,rfl,rfl⟩
    case round=>
     obtain⟨m,rfl,hm0,hmd,hst,rfl⟩:=hrel;have HST:=Qh hst;clear hst;by_cases h0:m % 2=0
     ·obtain⟨y1,_⟩:=strip_yes (p:=2) (by decide) hm0 h0;have HY:=Qh y1;have e1:(m:Int) % 2=0:=(by omega);obtain⟨m2,hm2⟩:∃ x,x=m / 2:=⟨_,rfl⟩
      have e2:(m:Int) / 2=(m2:Int):=(by omega);have g1:0 < m2:=(by omega);have g2:m2≤D:=(by omega);have g3:m2 < m:=(by omega);rw[← hm2]at HY;clear y1 hm2 h0;go_wp2_with fail;go_roundw;case rel=>exact⟨m2,by go_num,g1,g2,by rw[HST.out,HY.out],trivial⟩
      case measure=>simp[intOf];omega
     ·have e1:(m:Int) % 2=1:=(by omega);obtain⟨y1,_⟩:=strip_no (p:=2) h0;have HM:=Qh (show stripN 2 D=m from HST.out.trans y1);clear y1 h0;go_wp2_with fail;clear e1;obtain⟨wq,hwq⟩:∃ x,x=wr:=⟨_,rfl⟩
      subst hwq;go_loopw [8] (fun x wr=>∃ k:Nat,x=.int .u64 (k:Nat)∧0 < k∧k≤D∧stripN 5 m=stripN 5 k∧wr=wq) (fun x _=>(intOf x).toNat)
      case atStart=>exact⟨m,rfl,hm0,hmd,rfl,rfl⟩
      case round=>
       obtain⟨k,rfl,hk0,hkd,hst,rfl⟩:=hrel;have HST5:=Qh hst;clear hst;by_cases h0:k % 5=0
       ·obtain⟨y1,_⟩:=strip_yes (p:=5) (by decide) hk0 h0;have HY:=Qh y1;have e1:(k:Int) % 5=0:=(by omega);obtain⟨k2,hk2⟩:∃ x,x=k / 5:=⟨_,rfl⟩
        have e2:(k:Int) / 5=(k2:Int):=(by omega);have g1:0 < k2:=(by omega);have g2:k2≤D:=(by omega);have g3:k2 < k:=(by omega);rw[← hk2]at HY;clear y1 hk2 h0;go_wp2_with fail;go_roundw;case rel=>exact⟨k2,by go_num,g1,g2,by rw[HST5.out,HY.out],trivial⟩
        case measure=>simp[intOf];omega
       ·have e1:((k:Int) % 5 == 0)=false:=(by rw[beq_eq_false_iff_ne];omega);obtain⟨y1,_⟩:=strip_no (p:=5) h0;have HR:=Qh (show restN D=k by unfold restN;rw[HM.out,HST5.out,y1]);clear y1 h0;by_cases hk1:k=1
        ·have hk1':(k:Int)=1:=(by omega);have HR1:=Qh (HR.out.trans hk1);rw[hk1'];clear hk1' hk1;have HE:=Qh (HV1.out HR1.out hone);have HZ:=Qh (fun j=>rest_zero_iff A D hD1 HR1.out HG.out j);have hpl:placesN D≤62:=places_le hD1 hD2;have hmod:A % D < D:=Nat.mod_lt _ (by omega);have hTl:(S++Q).length≤21:=(by rw[List.length_append];omega);rw[show S++Q++46::longD (placesN D) (A % D) D=(S++Q)++46::longD (placesN D) (A % D) D from rfl]at HE;clear st1 hl1 HV1 HV2 HV;generalize S++Q=T at *;have st2:=str_snoc T 46;have hl2:¬ 9223372036854775807 < T.length+1:=(by omega);obtain⟨r0,hr0⟩:∃ r,r=A % D:=⟨_,rfl⟩
         have er0:(A:Int) % (D:Int)=(r0:Int):=(by rw[hr0];exact(Int.natCast_emod _ _).symm);rw[← hr0]at HE HZ hmod;clear hr0 HM HST HST5;go_wp2_with fail;rw[er0];clear er0;go_loopw [7,9] (fun s x wr=>∃ j r:Nat,x=.int .u64 (r:Nat)∧r=r0*10 ^ j % D∧j≤placesN D∧s=.string ⟨(T++46::longD j r0 D).toArray⟩∧Below w.heap.size w wr) (fun s _ _=>1000 - lenS s)
         case atStart=>exact⟨0,r0,rfl,by rw[Nat.pow_zero,Nat.mul_one,Nat.mod_eq_of_lt hmod],Nat.zero_le _,by simp[longD],HW3.out⟩
         case round=>
          obtain⟨j,r,rfl,hr,hj,rfl,hb⟩:=hrel;have hrD:r < D:=(by rw[hr];exact Nat.mod_lt _ (by omega));have hz:r=0↔placesN D≤j:=(by rw[hr];exact HZ.out j);have hlj:=longD_len j r0 D;have HSN:=Qh (longD_snoc j r0 D hD1);have HNX:=Qh (show 10*r % D=r0*10 ^ (j+1) % D by
           rw[hr,Nat.mul_mod_mod,Nat.pow_succ,Nat.mul_comm (10 ^ j) 10,Nat.mul_left_comm])
          rw[← hr]at HSN;clear hr;by_cases h0:r=0
          ·have HL:=Qh (show longD j r0 D=longD (placesN D) r0 D by rw[show j=placesN D by have:=hz.1 h0;omega]);subst h0;clear hz;go_wp2_with fail;go_ret2
           refine⟨?_,hb⟩;rw[HE.out,HL.out];simp
          ·have hr1:(0:Int) < r:=(by omega);have hjp:j < placesN D:=by
            rcases Nat.lt_or_ge j (placesN D)with h|h
            ·exact h
            ·exact absurd (hz.2 h) h0
           have ct:=tenfold_any r D hrD (by omega) wr;have hq9:10*r / D < 10:=(by rw[Nat.div_lt_iff_lt_mul (by omega)];omega);generalize 10*r / D=q at *;generalize 10*r % D=r2 at *;have hcv:=fun w=>conv_dig q hq9 w
           have st3:(⟨(T++46::longD j r0 D).toArray⟩:ByteArray)++⟨#[dgt q]⟩=⟨(T++46::(longD j r0 D++[dgt q])).toArray⟩:=(by rw[str_snoc];simp);have hl3:¬ 9223372036854775807 < T.length+((longD j r0 D).length+1)+1:=(by omega);clear hz h0;go_wp2_with fail;(with_reducible refine ct.mono ?_);rintro e w4 ⟨rfl,m4,rfl⟩;clear ct;go_wp2_with fail;go_roundw;case rel=>exact⟨j+1,r2,rfl,HNX.out,hjp,by rw[HSN.out],bdrew hb m4⟩
           case measure=>
            show 1000 - (T++46::(longD j r0 D++[dgt q])).length < 1000 - (T++46::longD j r0 D).length;simp only[List.length_append,List.length_cons,List.length_nil];omega
        ·have hk1':((k:Int) == 1)=false:=(by rw[beq_eq_false_iff_ne];omega);have HE:=Qh (show V=S++(Lib.decDigits A++47::Lib.decDigits D)by
          rw[HV.out];unfold bodyL;rw[if_neg (by rw[HR.out];exact hk1)])
         clear hk1;have hlA:=dec_len64 hA;have hlD:=dec_len64 (show D < 18446744073709551616 by omega);have d1:=cF A lrf wr HP3.out;generalize Lib.decDigits A=QA at *;generalize Lib.decDigits D=QD at *;have st2:=strA S QA;have st3:=str_snoc (S++QA) 47;have st4:=strA (S++QA++[47]) QD;have hl2:¬ 9223372036854775807 < S.length+QA.length:=(by omega);have hl3:¬ 9223372036854775807 < S.length+QA.length+1:=(by omega);have hl4:¬ 9223372036854775807 < S.length+QA.length+1+QD.length:=(by omega);go_wp2_with fail;(with_reducible refine d1.mono ?_);rintro e w4 ⟨rfl,hb4⟩;have d2:=cE w4 (HP3.out.keep hb4);have HW4:=Qh (bstep HW3.out hb4 lrf);clear d1 hb4;go_wp2_with fail;(with_reducible refine d2.mono ?_);rintro e w5 ⟨rfl,hb5⟩;have HW5:=Qh (bstep HW4.out hb5 lrf);clear d2 hb5;go_wp2_with fail;go_ret2
         refine⟨?_,HW5.out⟩;rw[HE.out];simp[strA]
end Go.Proofs.YtkblpaabknjckaaGreatDoor
