/-
  The reference of chapter 04: quoted, sign: contracts.
-/
import Derived.Test.YtlacjhjckkablaaGreatDoorBaseD
import Derived.Test.YtlacjhjckkablaaGreatDoorPrnF
import Derived.Deep.Cut
import Derived.Deep.DeepCutAuto
import Derived.Test.YtlacjhjckkablaaGreatDoorLexE
set_option maxHeartbeats 128000000
set_option linter.unusedVariables false
namespace Go.Proofs.YtlacjhjckkablaaGreatDoor
open Go.Proofs.Tryz
open Go.RowKit
theorem control3_any (r:Nat) (w:World) :
  Calls prog 127 #[.int .i32 (r:Nat)] w fun e w'=>e=.returned (.bool (ctlU r))∧w' = w:=by
 have HI:=Qh (ctlU_iff r);generalize ctlU r=b at *;by_cases h1:(r:Int) < 32
 ·have HB:=Qh (show b=true from HI.out.2 (.inl (by omega)));clear HI;go_enter func127,ntmps127
  go_wp2_with fail;go_ret;exact⟨by rw[HB.out]<;>rfl,rfl⟩
 ·by_cases h2:r=127
  ·have HB:=Qh (show b=true from HI.out.2 (.inr h2));have hb:((r:Int) == 127)=true:=(by rw[h2];rfl);clear HI h2;go_enter func127,ntmps127
   go_wp2_with fail;go_ret;exact⟨by rw[HB.out]<;>rfl,rfl⟩
  ·have HB:=Qh (show b=false by rw[Bool.eq_false_iff];intro h;rcases HI.out.1 h with h|h<;>omega);have hb:((r:Int) == 127)=false:=(by rw[beq_eq_false_iff_ne];omega);clear HI h2;go_enter func127,ntmps127
   go_wp2_with fail;go_ret;exact⟨by rw[HB.out]<;>rfl,rfl⟩
theorem blank3_any (r:Nat) (w:World) :
  Calls prog 80 #[.int .i32 (r:Nat)] w fun e w'=>e=.returned (.bool (blankU r))∧w' = w:=by
 have e1:((r:Int) == 32)=(r == 32):=(by rw[Bool.eq_iff_iff,beq_iff_eq,beq_iff_eq];omega);have e2:((r:Int) == 9)=(r == 9):=(by rw[Bool.eq_iff_iff,beq_iff_eq,beq_iff_eq];omega);have e3:((r:Int) == 10)=(r == 10):=(by rw[Bool.eq_iff_iff,beq_iff_eq,beq_iff_eq];omega);have e4:((r:Int) == 13)=(r == 13):=(by rw[Bool.eq_iff_iff,beq_iff_eq,beq_iff_eq];omega);have HI:=Qh (show blankU r=(r == 32 || r == 9 || r == 10 || r == 13)from rfl);generalize blankU r=b at *;generalize (r == 32)=b1 at *;generalize (r == 9)=b2 at *;generalize (r == 10)=b3 at *;generalize (r == 13)=b4 at *;cases b1<;>cases b2<;>cases b3<;>cases b4
 all_goals
  have HB:=Qh HI.out;clear HI;go_enter func80,ntmps80
  go_wp2_with fail;go_ret;exact⟨by rw[HB.out]<;>rfl,rfl⟩
theorem letter4_any (r:Nat) (w:World) :
  Calls prog 128 #[.int .u8 (r:Nat)] w fun e w'=>e=.returned (.bool (ltU r))∧w' = w:=by
 have HI:=Qh (ltU_iff r);generalize ltU r=b at *;have fin:∀ v:Bool,(v=true↔(97≤r∧r≤122)∨(65≤r∧r≤90)∨r=95)→b=v:=fun v hv=>by rw[Bool.eq_iff_iff,HI.out,hv]
 by_cases h1:(97:Int)≤r
 ·by_cases h2:(r:Int)≤122
  ·have HB:=Qh (fin true (by simp;omega));clear HI fin;go_enter func128,ntmps128
   go_wp2_with fail;go_ret;exact⟨by rw[HB.out]<;>rfl,rfl⟩
  ·have HB:=Qh (fin false (by simp;omega));have h3:(65:Int)≤r:=(by omega);have h4:¬ (r:Int)≤90:=(by omega);have h5:((r:Int) == 95)=false:=(by rw[beq_eq_false_iff_ne];omega);clear HI fin;go_enter func128,ntmps128
   go_wp2_with fail;go_ret;exact⟨by rw[HB.out]<;>rfl,rfl⟩
 ·by_cases h3:(65:Int)≤r
  ·by_cases h4:(r:Int)≤90
   ·have HB:=Qh (fin true (by simp;omega));clear HI fin;go_enter func128,ntmps128
    go_wp2_with fail;go_ret;exact⟨by rw[HB.out]<;>rfl,rfl⟩
   ·by_cases h6:r=95
    ·have HB:=Qh (fin true (by simp;omega));have h5:((r:Int) == 95)=true:=(by rw[h6];rfl);clear HI fin h6;go_enter func128,ntmps128
     go_wp2_with fail;go_ret;exact⟨by rw[HB.out]<;>rfl,rfl⟩
    ·have HB:=Qh (fin false (by simp;omega));have h5:((r:Int) == 95)=false:=(by rw[beq_eq_false_iff_ne];omega);clear HI fin h6;go_enter func128,ntmps128
     go_wp2_with fail;go_ret;exact⟨by rw[HB.out]<;>rfl,rfl⟩
  ·have HB:=Qh (fin false (by simp;omega));have h5:((r:Int) == 95)=false:=(by rw[beq_eq_false_iff_ne];omega);clear HI fin;go_enter func128,ntmps128
   go_wp2_with fail;go_ret;exact⟨by rw[HB.out]<;>rfl,rfl⟩
theorem digit4_any (r:Nat) (w:World) :
  Calls prog 129 #[.int .u8 (r:Nat)] w fun e w'=>e=.returned (.bool (dgU r))∧w' = w:=by
 have HI:=Qh (dgU_iff r);generalize dgU r=b at *;have fin:∀ v:Bool,(v=true↔48≤r∧r≤57)→b=v:=fun v hv=>by rw[Bool.eq_iff_iff,HI.out,hv]
 by_cases h1:(48:Int)≤r
 ·by_cases h2:(r:Int)≤57
  ·have HB:=Qh (fin true (by simp;omega));clear HI fin;go_enter func129,ntmps129
   go_wp2_with fail;go_ret;exact⟨by rw[HB.out]<;>rfl,rfl⟩
  ·have HB:=Qh (fin false (by simp;omega));clear HI fin;go_enter func129,ntmps129
   go_wp2_with fail;go_ret;exact⟨by rw[HB.out]<;>rfl,rfl⟩
 ·have HB:=Qh (fin false (by simp;omega));clear HI fin;go_enter func129,ntmps129
  go_wp2_with fail;go_ret;exact⟨by rw[HB.out]<;>rfl,rfl⟩
theorem at4_any (s:List UInt8) (i:Nat) (hs:s.length≤1000000000) (w:World) :
  Calls prog 130 #[.string ⟨s.toArray⟩,.int .i64 (i:Nat)] w fun e w'=>e=.returned (.int .u8 ((atB s i).toNat:Nat))∧w' = w:=by
 by_cases h:(i:Int) < s.length
 ·have h':i < s.length:=(by omega);have hget:(⟨s.toArray⟩:ByteArray)[i]'h' = s[i]:=rfl;rw[atB_lt h'];generalize s[i]=c at *;go_enter func130,ntmps130
  go_wp2_with fail;go_ret;exact⟨rfl,rfl⟩
 ·rw[atB_end (by omega)];go_enter func130,ntmps130
  go_wp2_with fail;go_ret;exact⟨rfl,rfl⟩
set_option maxRecDepth 100000 in theorem digits4_any (s : List UInt8) (i : Nat) (hs : s.length ≤ 1000000000) (hi : i ≤ s.length) (w : World) :
  Calls prog 155 #[.string ⟨s.toArray⟩,.int .i64 i] w fun e w'=>e=.returned (.int .i64 (i+(tw (s.drop i)).length:Nat))∧w' = w:=by
 obtain⟨T,hT⟩:∃ T,T=i+(tw (s.drop i)).length:=⟨_,rfl⟩
 rw[← hT];have HT:=Qh hT;clear hT;go_enter func155,ntmps155
 go_wp2_with fail;go_loopw [1] (fun x wr=>∃ k:Nat,x=.int .i64 (k:Nat)∧k≤s.length∧T=k+(tw (s.drop k)).length∧wr=w) (fun x _=>s.length - (intOf x).toNat)
 case atStart=>exact⟨i,rfl,hi,HT.out,rfl⟩
 case round=>
  obtain⟨k,rfl,hk,hTk,rfl⟩:=hrel;by_cases hlt:(k:Int) < s.length
  ·have hlt':k < s.length:=(by omega);have hget:(⟨s.toArray⟩:ByteArray)[k]'hlt' = s[k]:=rfl;have hd:=List.drop_eq_getElem_cons hlt';rw[hd]at hTk;generalize s[k]=c at *;have cd:=digit4_any c.toNat;rw[show dgU c.toNat=isDg c from rfl]at cd;cases hc:isDg c
   ·rw[tw_stop hc]at hTk;have HTK:=Qh (show T=k from hTk);rw[hc]at cd;clear hd hTk hc HT;go_wp2_with fail;with_reducible refine(cd _).mono ?_
    rintro e w1 ⟨rfl,rfl⟩;clear cd;go_wp2_with fail;go_ret;exact⟨by rw[HTK.out];rfl,rfl⟩
   ·rw[tw_cons hc]at hTk;have HTK:=Qh (show T=k+1+(tw (s.drop (k+1))).length by rw[hTk,List.length_cons];omega);rw[hc]at cd;clear hd hTk hc;go_wp2_with fail;with_reducible refine(cd _).mono ?_
    rintro e w1 ⟨rfl,rfl⟩;clear cd;go_wp2_with fail;go_roundw;case rel=>exact⟨k+1,by first|rfl|go_num,by omega,HTK.out,trivial⟩
    case measure=>(simp[intOf]<;>omega)
  ·have HTK:=Qh (show T=k by rw[hTk,show k=s.length by omega,List.drop_length];rfl);clear hTk HT;go_wp2_with fail;go_ret;exact⟨by rw[HTK.out];rfl,rfl⟩
open Go.RowKit Go.Shelf
theorem u8_eqT {c:UInt8} {k:Int} (hk:0≤k∧k < 256) (h:c=UInt8.ofNat k.toNat):((c.toNat:Int) == k)=true:=by
 have:=u8_eqB c k.toNat (by omega);rw[Int.toNat_of_nonneg hk.1]at this;rw[this,decide_eq_true_eq];exact h
theorem u8_eqF {c:UInt8} {k:Int} (hk:0≤k∧k < 256) (h:c≠UInt8.ofNat k.toNat):((c.toNat:Int) == k)=false:=by
 have:=u8_eqB c k.toNat (by omega);rw[Int.toNat_of_nonneg hk.1]at this;rw[this,decide_eq_false_iff_not];exact h
theorem u8_neT {c:UInt8} {k:Int} (hk:0≤k∧k < 256) (h:c=UInt8.ofNat k.toNat):((c.toNat:Int) != k)=false:=by
 rw[bne,u8_eqT hk h];rfl
theorem u8_neF {c:UInt8} {k:Int} (hk:0≤k∧k < 256) (h:c≠UInt8.ofNat k.toNat):((c.toNat:Int) != k)=true:=by
 rw[bne,u8_eqF hk h];rfl
theorem digits4_at (s:List UInt8) (x:Int) (i:Nat) (hx:x=(i:Nat)) (hs:s.length≤1000000000) (hi:i≤s.length) (w:World) :
  Calls prog 155 #[.string ⟨s.toArray⟩,.int .i64 x] w fun e w'=>e=.returned (.int .i64 (i+(tw (s.drop i)).length:Nat))∧w' = w:=by
 rw[hx];exact digits4_any s i hs hi w
theorem at4_at (s:List UInt8) (x:Int) (i:Nat) (hx:x=(i:Nat)) (hs:s.length≤1000000000) (w:World) :
  Calls prog 130 #[.string ⟨s.toArray⟩,.int .i64 x] w fun e w'=>e=.returned (.int .u8 ((atB s i).toNat:Nat))∧w' = w:=by
 rw[hx];exact at4_any s i hs w
theorem atB_pos {s:List UInt8} {i:Nat} (h:atB s i≠0):i < s.length:=by
 rcases Nat.lt_or_ge i s.length with h1|h1
 ·exact h1
 ·exact absurd (atB_end (by omega)) h
set_option maxRecDepth 100000 in theorem number4_any (s : List UInt8) (i : Nat) (hs : s.length ≤ 1000000000) (hi : i < s.length) (h1 : tw (s.drop (i + sgnN (s.drop i))) ≠ []) (w : World) :
  Calls prog 131 #[.string ⟨s.toArray⟩,.int .i64 (i:Nat)] w fun e w'=>∃ (K:Int) (b:Bool),e=.returned (.tuple #[.int .i64 K,.bool b])∧w' = w∧(b=true→K=(numA s i:Nat)∧numA s i≠0)∧(b=false→numA s i=0):=by
 obtain⟨V,hV⟩:∃ V,V=numA s i:=⟨_,rfl⟩
 rw[← hV];have hsg:=sgn_at s i;have cA:=fun w=>at4_any s i hs w
 obtain⟨hg1,hg2⟩:=sgnN_le (s.drop i);rw[List.length_drop]at hg2;obtain⟨i1,hi1⟩:∃ i1,i1=i+sgnN (s.drop i):=⟨_,rfl⟩
 have hV1:V=num1T s (i1+(tw (s.drop i1)).length):=(by rw[hV,hi1];rfl);rw[← hi1]at h1;rw[hsg]at hi1;have hi1b:i1≤s.length:=(by rw[hi1];split<;>omega);have HV1:=Qh hV1;have HI1:=Qh hi1;have H1:=Qh h1;clear hV hsg hg1 hg2 hV1 hi1 h1;generalize atB s i=c0 at *;go_enter func131,ntmps131
 go_upto_region 1 with fail
 go_cut [18] (fun x ws=>x=.bool (isSg c0)∧ws=w)
 case first=>
  by_cases e1:c0=43
  ·have HB:=Qh (show isSg c0=true by rw[e1];rfl);have g1:=u8_eqT (k:=43) (by decide) e1;clear e1;go_wp2_with fail;with_reducible refine(cA _).mono ?_
   rintro e w ⟨rfl,rfl⟩;go_wp2_with fail;go_meet
   case rel=>exact⟨by rw[HB.out],rfl⟩
  ·by_cases e2:c0=45
   ·have HB:=Qh (show isSg c0=true by rw[e2];rfl);have g1:=u8_eqF (k:=43) (by decide) e1;have g2:=u8_eqT (k:=45) (by decide) e2;clear e1 e2;go_wp2_with fail;with_reducible refine(cA _).mono ?_
    rintro e w ⟨rfl,rfl⟩;go_wp2_with fail;with_reducible refine(cA _).mono ?_
    rintro e w ⟨rfl,rfl⟩;go_wp2_with fail;go_meet
    case rel=>exact⟨by rw[HB.out],rfl⟩
   ·have HB:=Qh (show isSg c0=false by rw[Bool.eq_false_iff];intro h;rcases (isSg_iff c0).1 h with h|h;exact e1 h;exact e2 h);have g1:=u8_eqF (k:=43) (by decide) e1;have g2:=u8_eqF (k:=45) (by decide) e2;clear e1 e2;go_wp2_with fail;with_reducible refine(cA _).mono ?_
    rintro e w ⟨rfl,rfl⟩;go_wp2_with fail;with_reducible refine(cA _).mono ?_
    rintro e w ⟨rfl,rfl⟩;go_wp2_with fail;go_meet
    case rel=>exact⟨by rw[HB.out],rfl⟩
 case rest=>
 obtain⟨rfl,rfl⟩:=hcut;generalize isSg c0=b0 at *;clear cA;go_upto_if 18 with (fail)
 go_cut [1] (fun x ws=>x=.int .i64 (i1:Nat)∧ws=wc)
 case first=>
  cases b0
  ·have HQ:=Qh (show i1=i from HI1.out);clear HI1;go_wp2_with fail;go_meet
   case rel=>exact⟨by rw[HQ.out],rfl⟩
  ·have HQ:=Qh (show(i1:Int)=(i:Int)+1 by have:=HI1.out;simp at this;omega);clear HI1;go_wp2_with fail;go_meet
   case rel=>exact⟨by rw[HQ.out],rfl⟩
 case rest=>
 obtain⟨rfl,rfl⟩:=hcut;obtain⟨w,hw⟩:∃ x,x=wc:=⟨_,rfl⟩
 subst hw;clear HI1;have cD:=fun w=>digits4_any s i1 hs hi1b w
 have hT1:=tw_lenA (s.drop i1);have hT2:0 < (tw (s.drop i1)).length:=List.length_pos_iff.2 H1.out;rw[List.length_drop]at hT1;have hm1:=tw_max s i1;obtain⟨n1,hn1⟩:∃ n1,n1=i1+(tw (s.drop i1)).length:=⟨_,rfl⟩
 rw[← hn1]at cD HV1 hm1;have hn1b:n1≤s.length:=(by omega);have hn1c:1≤n1:=(by omega);clear hn1 hT1 hT2 H1;have cA:=fun w=>at4_any s n1 hs w
 have HM1:=Qh (show ∀ m,m=n1→dgU (atB s m).toNat=false from fun m e=>by rw[e];exact hm1);have hV:=HV1.out;rw[num1_at]at hV;have HV:=Qh hV;have hpos:atB s n1=46→n1 < s.length:=fun h=>atB_pos (by rw[h];decide)
 clear hV HV1 hm1;generalize atB s n1=c1 at *;go_wp2_with fail;with_reducible refine(cD _).mono ?_
 rintro e w ⟨rfl,rfl⟩;go_wp2_with fail;with_reducible refine(cA _).mono ?_
 rintro e w ⟨rfl,rfl⟩;clear cA cD;go_upto_if 27 with (fail)
 go_cut [1] (fun x ws=>∃ n:Nat,x=.int .i64 (n:Nat)∧n≤s.length∧1≤n∧V=num2T s n∧dgU (atB s n).toNat=false∧ws=w)
 case first=>
  have hV:=HV.out;by_cases e1:c1=46
  ·rw[if_pos e1]at hV;have g1:=u8_eqT (k:=46) (by decide) e1;have hlt:=hpos e1;have cD:=fun w=>digits4_at s ((n1:Int)+1) (n1+1) (by omega) hs hlt w
   have hT1:=tw_lenA (s.drop (n1+1));rw[List.length_drop]at hT1;have hm1:=tw_max s (n1+1);rw[← Nat.add_assoc]at hV;by_cases h0:tw (s.drop (n1+1))=[]
   ·rw[if_pos h0]at hV;have HN:=Qh hV;rw[h0]at cD;have ge:((n1+1:Nat):Int) == (n1:Int)+1:=(by rw[beq_iff_eq];omega);clear HV hV hm1 hT1 h0 HM1 hpos e1;go_wp2_with fail;with_reducible refine(cD _).mono ?_
    rintro e w ⟨rfl,rfl⟩;go_wp2_with fail;go_ret2
    exact⟨_,_,rfl,rfl,(fun h=>by cases h),fun _=>HN.out⟩
   ·rw[if_neg h0]at hV;have hk:0 < (tw (s.drop (n1+1))).length:=List.length_pos_iff.2 h0;generalize (tw (s.drop (n1+1))).length=k at *;have HN:=Qh hV;have HM:=Qh hm1;have ge:(((n1+1+k:Nat):Int) == (n1:Int)+1)=false:=(by rw[beq_eq_false_iff_ne];omega);clear HV hV hm1 h0 HM1 hpos e1;go_wp2_with fail;with_reducible refine(cD _).mono ?_
    rintro e w ⟨rfl,rfl⟩;go_wp2_with fail;go_meet
    case rel=>exact⟨n1+1+k,by first|rfl|go_num,by omega,by omega,HN.out,HM.out,rfl⟩
  ·rw[if_neg e1]at hV;have g1:=u8_eqF (k:=46) (by decide) e1;have HN:=Qh hV;clear HV hV hpos e1;go_wp2_with fail;go_meet
   case rel=>exact⟨n1,by first|rfl|go_num,hn1b,hn1c,HN.out,HM1.out _ rfl,rfl⟩
 case rest=>
 clear HV HM1 hn1b hn1c hpos;obtain⟨n2,rfl,hn2b,hn2c,hV,hm2,rfl⟩:=hcut;obtain⟨w,hw⟩:∃ x,x=wc:=⟨_,rfl⟩
 subst hw;have cA:=fun w=>at4_any s n2 hs w
 have HM2:=Qh (show ∀ m,m=n2→dgU (atB s m).toNat=false from fun m e=>by rw[e];exact hm2);rw[num2_at]at hV;have HV:=Qh hV;have hpos:isEe (atB s n2)=true→n2 < s.length:=fun h=>atB_pos (by intro h2;rw[h2]at h;cases h)
 clear hV hm2;generalize atB s n2=c2 at *;go_upto_region 9 with fail
 go_cut [46] (fun x ws=>x=.bool (isEe c2)∧ws=w)
 case first=>
  clear hpos HM2 HV;by_cases e1:c2=101
  ·have HB:=Qh (show isEe c2=true by rw[e1];rfl);have g1:=u8_eqT (k:=101) (by decide) e1;clear e1;go_wp2_with fail;with_reducible refine(cA _).mono ?_
   rintro e w ⟨rfl,rfl⟩;go_wp2_with fail;go_meet
   case rel=>exact⟨by rw[HB.out],rfl⟩
  ·by_cases e2:c2=69
   ·have HB:=Qh (show isEe c2=true by rw[e2];rfl);have g1:=u8_eqF (k:=101) (by decide) e1;have g2:=u8_eqT (k:=69) (by decide) e2;clear e1 e2;go_wp2_with fail;with_reducible refine(cA _).mono ?_
    rintro e w ⟨rfl,rfl⟩;go_wp2_with fail;with_reducible refine(cA _).mono ?_
    rintro e w ⟨rfl,rfl⟩;go_wp2_with fail;go_meet
    case rel=>exact⟨by rw[HB.out],rfl⟩
   ·have HB:=Qh (show isEe c2=false by rw[Bool.eq_false_iff];intro h;rcases (isEe_iff c2).1 h with h|h;exact e1 h;exact e2 h);have g1:=u8_eqF (k:=101) (by decide) e1;have g2:=u8_eqF (k:=69) (by decide) e2;clear e1 e2;go_wp2_with fail;with_reducible refine(cA _).mono ?_
    rintro e w ⟨rfl,rfl⟩;go_wp2_with fail;with_reducible refine(cA _).mono ?_
    rintro e w ⟨rfl,rfl⟩;go_wp2_with fail;go_meet
    case rel=>exact⟨by rw[HB.out],rfl⟩
 case rest=>
 obtain⟨rfl,rfl⟩:=hcut;obtain⟨w,hw⟩:∃ x,x=wc:=⟨_,rfl⟩
 subst hw;generalize isEe c2=b2 at *;clear cA;go_upto_if 46 with (fail)
 go_cut [1] (fun x ws=>∃ n:Nat,x=.int .i64 (n:Nat)∧n≤s.length∧1≤n∧V=num3T s n∧dgU (atB s n).toNat=false∧ws=w)
 case first=>
  have hV:=HV.out;cases b2
  ·rw[if_neg (by simp)]at hV;have HN:=Qh hV;clear HV hV hpos;go_wp2_with fail;go_meet
   case rel=>exact⟨n2,by first|rfl|go_num,hn2b,hn2c,HN.out,HM2.out _ rfl,rfl⟩
  ·rw[if_pos rfl]at hV;have hlt:=hpos rfl;have hsg:=sgn_at s (n2+1);obtain⟨hg1,hg2⟩:=sgnN_le (s.drop (n2+1));rw[List.length_drop]at hg2;obtain⟨i3,hi3⟩:∃ i3,i3=n2+1+sgnN (s.drop (n2+1)):=⟨_,rfl⟩
   rw[← hi3]at hV;have hi3b:i3≤s.length:=(by omega);rw[hsg]at hi3;have cA:=fun w=>at4_at s ((n2:Int)+1) (n2+1) (by omega) hs w
   have HN:=Qh hV;have HI3:=Qh hi3;clear HV hV hpos hsg hg1 hg2 hi3 HM2;generalize atB s (n2+1)=c3 at *;go_upto_region 11 with fail
   go_cut [58] (fun x ws=>x=.bool (isSg c3)∧ws=w)
   case first=>
    by_cases e1:c3=43
    ·have HB:=Qh (show isSg c3=true by rw[e1];rfl);have g1:=u8_eqT (k:=43) (by decide) e1;clear e1;go_wp2_with fail;with_reducible refine(cA _).mono ?_
     rintro e w ⟨rfl,rfl⟩;go_wp2_with fail;go_meet
     case rel=>exact⟨by rw[HB.out],rfl⟩
    ·by_cases e2:c3=45
     ·have HB:=Qh (show isSg c3=true by rw[e2];rfl);have g1:=u8_eqF (k:=43) (by decide) e1;have g2:=u8_eqT (k:=45) (by decide) e2;clear e1 e2;go_wp2_with fail;with_reducible refine(cA _).mono ?_
      rintro e w ⟨rfl,rfl⟩;go_wp2_with fail;with_reducible refine(cA _).mono ?_
      rintro e w ⟨rfl,rfl⟩;go_wp2_with fail;go_meet
      case rel=>exact⟨by rw[HB.out],rfl⟩
     ·have HB:=Qh (show isSg c3=false by rw[Bool.eq_false_iff];intro h;rcases (isSg_iff c3).1 h with h|h;exact e1 h;exact e2 h);have g1:=u8_eqF (k:=43) (by decide) e1;have g2:=u8_eqF (k:=45) (by decide) e2;clear e1 e2;go_wp2_with fail;with_reducible refine(cA _).mono ?_
      rintro e w ⟨rfl,rfl⟩;go_wp2_with fail;with_reducible refine(cA _).mono ?_
      rintro e w ⟨rfl,rfl⟩;go_wp2_with fail;go_meet
      case rel=>exact⟨by rw[HB.out],rfl⟩
   case rest=>
   obtain⟨rfl,rfl⟩:=hcut;obtain⟨w,hw⟩:∃ x,x=wc:=⟨_,rfl⟩
   subst hw;generalize isSg c3=b3 at *;clear cA;go_upto_if 58 with (fail)
   go_cut [1] (fun x ws=>x=.int .i64 (i3:Nat)∧ws=w)
   case first=>
    cases b3
    ·have HQ:=Qh (show(i3:Int)=(n2:Int)+1 by have:=HI3.out;simp at this;omega);clear HI3;go_wp2_with fail;go_meet
     case rel=>exact⟨by rw[HQ.out],rfl⟩
    ·have HQ:=Qh (show(i3:Int)=(n2:Int)+1+1 by have:=HI3.out;simp at this;omega);clear HI3;go_wp2_with fail;go_meet
     case rel=>exact⟨by rw[HQ.out],rfl⟩
   case rest=>
   obtain⟨rfl,rfl⟩:=hcut;obtain⟨w,hw⟩:∃ x,x=wc:=⟨_,rfl⟩
   subst hw;clear HI3;have cD:=fun w=>digits4_any s i3 hs hi3b w
   have hT1:=tw_lenA (s.drop i3);rw[List.length_drop]at hT1;have hm3:=tw_max s i3;have hV:=HN.out;clear HN;by_cases h0:tw (s.drop i3)=[]
   ·rw[if_pos h0]at hV;have HN:=Qh hV;rw[h0]at cD;have ge:((i3:Int) == (i3:Int))=true:=(by rw[beq_iff_eq]);clear hV hm3 hT1 h0;go_wp2_with fail;with_reducible refine(cD _).mono ?_
    rintro e w ⟨rfl,rfl⟩;go_wp2_with fail;go_ret2
    exact⟨_,_,rfl,rfl,(fun h=>by cases h),fun _=>HN.out⟩
   ·rw[if_neg h0]at hV;have hk:0 < (tw (s.drop i3)).length:=List.length_pos_iff.2 h0;generalize (tw (s.drop i3)).length=k at *;have HN:=Qh hV;have HM:=Qh hm3;have ge:(((i3+k:Nat):Int) == (i3:Int))=false:=(by rw[beq_eq_false_iff_ne];omega);clear hV hm3 h0;go_wp2_with fail;with_reducible refine(cD _).mono ?_
    rintro e w ⟨rfl,rfl⟩;go_wp2_with fail;go_meet
    case rel=>exact⟨i3+k,by first|rfl|go_num,by omega,by omega,HN.out,HM.out,rfl⟩
 case rest=>
 clear HV HM2 hn2b hn2c hpos;obtain⟨n3,rfl,hn3b,hn3c,hV,hm3,rfl⟩:=hcut;obtain⟨w,hw⟩:∃ x,x=wc:=⟨_,rfl⟩
 subst hw;have cA:=fun w=>at4_any s n3 hs w
 rw[num3_at]at hV;generalize atB s n3=c4 at *;have cl:=fun w=>letter4_any c4.toNat w
 have cd:=fun w=>digit4_any c4.toNat w
 rw[hm3]at cd;cases hl:ltU c4.toNat
 ·rw[hl]at cl;by_cases e1:c4=46
  ·have HN:=Qh (show V=0 by rw[hV,if_pos];rw[e1];rfl);have g1:=u8_neT (k:=46) (by decide) e1;clear hV hl e1 hm3;go_wp2_with fail;with_reducible refine(cA _).mono ?_
   rintro e w ⟨rfl,rfl⟩;go_wp2_with fail;with_reducible refine(cl _).mono ?_
   rintro e w ⟨rfl,rfl⟩;go_wp2_with fail;with_reducible refine(cd _).mono ?_
   rintro e w ⟨rfl,rfl⟩;go_wp2_with fail;go_ret2
   exact⟨_,_,rfl,rfl,(fun h=>by cases h),fun _=>HN.out⟩
  ·have HN:=Qh (show V=n3 by
    rw[hV,if_neg];unfold stopN;rw[hl,Bool.false_or,beq_iff_eq];exact e1)
   have g1:=u8_neF (k:=46) (by decide) e1;clear hV hl e1 hm3;go_wp2_with fail;with_reducible refine(cA _).mono ?_
   rintro e w ⟨rfl,rfl⟩;go_wp2_with fail;with_reducible refine(cl _).mono ?_
   rintro e w ⟨rfl,rfl⟩;go_wp2_with fail;with_reducible refine(cd _).mono ?_
   rintro e w ⟨rfl,rfl⟩;go_wp2_with fail;go_ret2
   exact⟨_,_,rfl,rfl,fun _=>⟨by rw[HN.out],by rw[HN.out];omega⟩,fun h=>by cases h⟩
 ·rw[hl]at cl;have HN:=Qh (show V=0 by rw[hV,if_pos];unfold stopN;rw[hl];rfl);clear hV hl hm3;go_wp2_with fail;with_reducible refine(cA _).mono ?_
  rintro e w ⟨rfl,rfl⟩;go_wp2_with fail;with_reducible refine(cl _).mono ?_
  rintro e w ⟨rfl,rfl⟩;go_wp2_with fail;go_ret2
  exact⟨_,_,rfl,rfl,(fun h=>by cases h),fun _=>HN.out⟩
def qtN:Option Nat→Nat
 | none=>0
 | some k=>k+1
set_option maxRecDepth 100000 in theorem quoted4_any (s : List UInt8) (i : Nat) (hs : s.length ≤ 1000000000) (hi : i < s.length) (w : World) :
  Calls prog 132 #[.string ⟨s.toArray⟩,.int .i64 (i:Nat)] w fun e w'=>e=.returned (.int .i64 (qtN (endQ false (i+1) (s.drop (i+1))):Nat))∧w' = w:=by
 obtain⟨V,hV⟩:∃ V,V=endQ false (i+1) (s.drop (i+1)):=⟨_,rfl⟩
 rw[← hV];have HV:=Qh hV;clear hV;go_enter func132,ntmps132
 go_wp2_with fail;go_loopw [5] (fun x wr=>∃ k:Nat,x=.int .i64 (k:Nat)∧k≤s.length+1∧V=endQ false k (s.drop k)∧wr=w) (fun x _=>s.length+1 - (intOf x).toNat)
 case atStart=>exact⟨i+1,by first|rfl|go_num,by omega,HV.out,rfl⟩
 case round=>
  clear HV;obtain⟨k,rfl,hk,hVk,rfl⟩:=hrel;by_cases hlt:(k:Int) < s.length
  ·have hlt':k < s.length:=(by omega);have hget:(⟨s.toArray⟩:ByteArray)[k]'hlt' = s[k]:=rfl;have hd:=List.drop_eq_getElem_cons hlt';rw[hd]at hVk;generalize s[k]=c at *;have hstep:endQ false k (c::s.drop (k+1))=if c=92 then endQ true (k+1) (s.drop (k+1)) else if c=34 then some k else endQ false (k+1) (s.drop (k+1)):=rfl
   rw[hstep]at hVk;by_cases e1:c=92
   ·rw[if_pos e1]at hVk;have HN:=Qh (show V=endQ false (k+1+1) (s.drop (k+1+1))by
     rw[hVk];rcases Nat.lt_or_ge (k+1) s.length with h|h
     ·rw[List.drop_eq_getElem_cons h];rfl
     ·rw[List.drop_eq_nil_of_le h,List.drop_eq_nil_of_le (by omega),endQ_nil,endQ_nil])
    have g1:=u8_eqT (k:=92) (by decide) e1;clear hd hVk hstep e1;go_wp2_with fail;go_roundw;case rel=>exact⟨k+1+1,by first|rfl|go_num,by omega,HN.out,trivial⟩
    case measure=>(simp[intOf]<;>omega)
   ·rw[if_neg e1]at hVk;have g1:=u8_eqF (k:=92) (by decide) e1;by_cases e2:c=34
    ·rw[if_pos e2]at hVk;have HN:=Qh hVk;have g2:=u8_eqT (k:=34) (by decide) e2;clear hd hVk hstep e1 e2;go_wp2_with fail;go_ret;exact⟨by rw[HN.out]<;>rfl,rfl⟩
    ·rw[if_neg e2]at hVk;have HN:=Qh hVk;have g2:=u8_eqF (k:=34) (by decide) e2;clear hd hVk hstep e1 e2;go_wp2_with fail;go_roundw;case rel=>exact⟨k+1,by first|rfl|go_num,by omega,HN.out,trivial⟩
     case measure=>(simp[intOf]<;>omega)
  ·have HN:=Qh (show V=none by rw[hVk,List.drop_eq_nil_of_le (by omega),endQ_nil]);clear hVk;go_wp2_with fail;go_ret;exact⟨by rw[HN.out]<;>rfl,rfl⟩
def sgsL:List UInt8:=[58,124,40,41,91,93,44,59]
theorem sgs_lt:∀ k,(h:k < sgsL.length)→sgU sgsL[k].toNat=true:=by decide
theorem sgs_all (c:UInt8) (h:sgU c.toNat=true):∃ k,∃ h:k < sgsL.length,sgsL[k]=c:=by
 unfold sgU at h;simp only[Bool.or_eq_true,beq_iff_eq]at h;have un:∀ m:UInt8,c.toNat=m.toNat→c=m:=fun m e=>UInt8.toNat_inj.1 e
 rcases h with ((((((h|h)|h)|h)|h)|h)|h)|h
 ·exact⟨0,by decide,(un 58 h).symm⟩
 ·exact⟨1,by decide,(un 124 h).symm⟩
 ·exact⟨2,by decide,(un 40 h).symm⟩
 ·exact⟨3,by decide,(un 41 h).symm⟩
 ·exact⟨4,by decide,(un 91 h).symm⟩
 ·exact⟨5,by decide,(un 93 h).symm⟩
 ·exact⟨6,by decide,(un 44 h).symm⟩
 ·exact⟨7,by decide,(un 59 h).symm⟩
theorem ordB_at (l:List UInt8):ordB l=(atB l 0 == 64 && (atB l 1 == 48 || atB l 1 == 49) && (atB l 2 == 43 || atB l 2 == 45)):=by
 rcases l with _|⟨a,_|⟨b,_|⟨c,t⟩⟩⟩
 ·rfl
 ·simp[ordB,atB]
 ·simp[ordB,atB]
 ·have e:∀ x y z:UInt8,((a::b::c::t).take 3 == [x,y,z])=(a == x && b == y && c == z):=fun x y z=>by
   rw[Bool.eq_iff_iff];simp[and_assoc]
  unfold ordB;rw[e,e,e,e];show _=(a == 64 && (b == 48 || b == 49) && (c == 43 || c == 45));generalize (a == 64)=b1;generalize (b == 48)=b2;generalize (b == 49)=b3;generalize (c == 43)=b4;generalize (c == 45)=b5;revert b1 b2 b3 b4 b5;decide
def sgnR (s:List UInt8) (i:Nat):Nat:=if sgU (atB s i).toNat=true then i+1 else if ordB (s.drop i)=true then i+3 else 0
theorem ord_cases (l:List UInt8) (c b d:UInt8) (hc:atB l 0=c) (hb:atB l 1=b) (hd:atB l 2=d) :
  (ordB l=true∧c=64∧(b=48∨b=49∧b≠48)∧(d=43∨d=45∧d≠43))∨(ordB l=false∧(c≠64∨(c=64∧b≠48∧b≠49)∨(c=64∧(b=48∨b=49∧b≠48)∧d≠43∧d≠45))):=by
 rw[ordB_at,hc,hb,hd];by_cases h1:c=64
 ·by_cases h2:b=48
  ·by_cases h3:d=43
   ·left;subst h1 h2 h3;exact⟨by decide,rfl,.inl rfl,.inl rfl⟩
   ·by_cases h4:d=45
    ·left;subst h1 h2 h4;exact⟨by decide,rfl,.inl rfl,.inr ⟨rfl,h3⟩⟩
    ·right;exact⟨by simp[h3,h4],.inr (.inr ⟨h1,.inl h2,h3,h4⟩)⟩
  ·by_cases h5:b=49
   ·by_cases h3:d=43
    ·left;subst h1 h5 h3;exact⟨by decide,rfl,.inr ⟨rfl,h2⟩,.inl rfl⟩
    ·by_cases h4:d=45
     ·left;subst h1 h5 h4;exact⟨by decide,rfl,.inr ⟨rfl,h2⟩,.inr ⟨rfl,h3⟩⟩
     ·right;exact⟨by simp[h3,h4],.inr (.inr ⟨h1,.inr ⟨h5,h2⟩,h3,h4⟩)⟩
   ·right;exact⟨by simp[h2,h5],.inr (.inl ⟨h1,h2,h5⟩)⟩
 ·right;exact⟨by simp[h1],.inl h1⟩
set_option maxRecDepth 100000 in theorem sign4_any (s : List UInt8) (i : Nat) (hs : s.length ≤ 1000000000) (hi : i < s.length) (w : World) :
  Calls prog 134 #[.string ⟨s.toArray⟩,.int .i64 (i:Nat)] w fun e w'=>e=.returned (.int .i64 (sgnR s i:Nat))∧Below w.heap.size w w':=by
 obtain⟨V,hV⟩:∃ V,V=sgnR s i:=⟨_,rfl⟩
 rw[← hV];unfold sgnR at hV;have cB:=fun w=>at4_at s ((i:Int)+1) (i+1) (by omega) hs w
 have cC:=fun w=>at4_at s ((i:Int)+2) (i+2) (by omega) hs w
 have hoc:=ord_cases (s.drop i) (atB s i) (atB s (i+1)) (atB s (i+2)) (atB_drop s i 0) (atB_drop s i 1) (atB_drop s i 2);have hget:=get_atB s i hi;have HV:=Qh hV;have HOC:=Qh hoc;clear hV hoc;generalize atB s i=c at *;generalize atB s (i+1)=b at *;generalize atB s (i+2)=d at *;generalize ordB (s.drop i)=o at *;go_enter func134,ntmps134
 go_wp2_with fail;go_loopw [6] (fun x wr=>∃ k:Nat,x=.int .i64 (k:Nat)∧k≤8∧(∀ j,(h:j < sgsL.length)→j < k→sgsL[j]≠c)∧Below w.heap.size w wr) (fun x _=>8 - (intOf x).toNat)
 case atStart=>exact⟨0,rfl,by decide,fun j _ h=>absurd h (Nat.not_lt_zero _),Below.refl _ _⟩
 case round=>
  obtain⟨k,rfl,hk,hno,hb⟩:=hrel;by_cases hlt:(k:Int) < 8
  ·have hlt':k < sgsL.length:=(by show k < 8;omega);have hget2:(⟨#[58,124,40,41,91,93,44,59]⟩:ByteArray)[k]'hlt' = sgsL[k]:=rfl;by_cases e1:c=sgsL[k]
   ·have HN:=Qh (show V=i+1 by rw[HV.out,if_pos];rw[e1];exact sgs_lt k hlt');have g1:((c.toNat:Int) == (((⟨#[58,124,40,41,91,93,44,59]⟩:ByteArray)[k]'hlt').toNat:Int))=true:=(by rw[hget2,e1,beq_iff_eq]);clear HOC HV hno e1 cB cC hget2;go_wp2_with fail;go_quiet (fail)
    go_wp2_with fail;go_ret;exact⟨by rw[HN.out]<;>rfl,hb.trans ⟨rfl,rfl,rfl,lrf,fun _ _=>rfl⟩⟩
   ·have g1:((c.toNat:Int) == (((⟨#[58,124,40,41,91,93,44,59]⟩:ByteArray)[k]'hlt').toNat:Int))=false:=by
     rw[hget2,beq_eq_false_iff_ne];intro h;exact e1 (UInt8.toNat_inj.1 (by omega))
    have HNX:=Qh (show ∀ j,(h:j < sgsL.length)→j < k+1→sgsL[j]≠c from fun j h h2=>by
     by_cases hj:j < k
     ·exact hno j h hj
     ·obtain rfl:j=k:=by omega
      exact fun h3=>e1 h3.symm)
    clear hno e1 cB cC hget2;go_wp2_with fail;go_quiet (fail)
    go_wp2_with fail;go_roundw;case rel=>exact⟨k+1,by first|rfl|go_num,by omega,HNX.out,hb.trans ⟨rfl,rfl,rfl,lrf,fun _ _=>rfl⟩⟩
    case measure=>(simp[intOf]<;>omega)
  ·have hs0:sgU c.toNat=false:=by
    rw[Bool.eq_false_iff];intro h;obtain⟨j,hj,e⟩:=sgs_all c h;exact hno j hj (by have:j < 8:=hj;omega) e
   have hV:=HV.out;rw[hs0,if_neg (by simp)]at hV;have HB:=Qh hb;have ci:=fun w=>cB w
   have HVV:=Qh hV;clear HV hs0 hno hV hb;rcases HOC.out with ⟨ho,h1,h2,h3⟩|⟨ho,h1⟩
   ·have HN:=Qh (show V=i+3 by rw[HVV.out,if_pos ho]);have g1:=u8_eqT (k:=64) (by decide) h1;have g2:((b.toNat:Int) == 48)=true∨(((b.toNat:Int) == 48)=false∧((b.toNat:Int) == 49)=true):=by
     rcases h2 with h|⟨h,h'⟩
     ·exact .inl (u8_eqT (k:=48) (by decide) h)
     ·exact .inr ⟨u8_eqF (k:=48) (by decide) h',u8_eqT (k:=49) (by decide) h⟩
    have g3:((d.toNat:Int) == 43)=true∨(((d.toNat:Int) == 43)=false∧((d.toNat:Int) == 45)=true):=by
     rcases h3 with h|⟨h,h'⟩
     ·exact .inl (u8_eqT (k:=43) (by decide) h)
     ·exact .inr ⟨u8_eqF (k:=43) (by decide) h',u8_eqT (k:=45) (by decide) h⟩
    clear HOC HVV h1 h2 h3 ho ci;rcases g2 with g2|⟨g2,g2'⟩<;>rcases g3 with g3|⟨g3,g3'⟩
    all_goals
     go_wp2_with fail;with_reducible refine(cB _).mono ?_
     rintro e w1 ⟨rfl,rfl⟩;go_wp2_with fail;with_reducible refine(cC _).mono ?_
     rintro e w1 ⟨rfl,rfl⟩;go_wp2_with fail;go_ret;exact⟨by rw[HN.out]<;>rfl,HB.out⟩
   ·have HN:=Qh (show V=0 by rw[HVV.out,if_neg (by rw[ho];simp)]);have gg:((c.toNat:Int) == 64)=false∨(((c.toNat:Int) == 64)=true∧((b.toNat:Int) == 48)=false∧((b.toNat:Int) == 49)=false)∨(((c.toNat:Int) == 64)=true∧((b.toNat:Int) == 48)=true∧((d.toNat:Int) == 43)=false∧((d.toNat:Int) == 45)=false)∨(((c.toNat:Int) == 64)=true∧((b.toNat:Int) == 48)=false∧((b.toNat:Int) == 49)=true∧((d.toNat:Int) == 43)=false∧((d.toNat:Int) == 45)=false):=by
     rcases h1 with h|⟨h,h2,h3⟩|⟨h,h2,h3,h4⟩
     ·exact .inl (u8_eqF (k:=64) (by decide) h)
     ·exact .inr (.inl ⟨u8_eqT (k:=64) (by decide) h,u8_eqF (k:=48) (by decide) h2,u8_eqF (k:=49) (by decide) h3⟩)
     ·rcases h2 with h2|⟨h2,h5⟩
      ·exact .inr (.inr (.inl ⟨u8_eqT (k:=64) (by decide) h,u8_eqT (k:=48) (by decide) h2,u8_eqF (k:=43) (by decide) h3,u8_eqF (k:=45) (by decide) h4⟩))
      ·exact .inr (.inr (.inr ⟨u8_eqT (k:=64) (by decide) h,u8_eqF (k:=48) (by decide) h5,u8_eqT (k:=49) (by decide) h2,u8_eqF (k:=43) (by decide) h3,u8_eqF (k:=45) (by decide) h4⟩))
    clear HOC HVV h1 ho ci;rcases gg with g1|⟨g1,g2,g3⟩|⟨g1,g2,g3,g4⟩|⟨g1,g2,g3,g4,g5⟩
    all_goals
     go_wp2_with fail;with_reducible refine(cB _).mono ?_
     rintro e w1 ⟨rfl,rfl⟩;go_wp2_with fail;with_reducible refine(cC _).mono ?_
     rintro e w1 ⟨rfl,rfl⟩;go_wp2_with fail;go_ret;exact⟨by rw[HN.out]<;>rfl,HB.out⟩
end Go.Proofs.YtlacjhjckkablaaGreatDoor
