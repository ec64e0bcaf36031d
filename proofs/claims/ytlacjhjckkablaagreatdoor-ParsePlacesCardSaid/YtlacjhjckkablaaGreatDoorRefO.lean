/-
  The reference's Of, opposite: contracts.
-/
import Derived.Test.YtlacjhjckkablaaGreatDoorBaseD
import Derived.Test.YtlacjhjckkablaaGreatDoorNatT
import Derived.Test.YtlacjhjckkablaaGreatDoorRatD
import Derived.Test.YtlacjhjckkablaaGreatDoorBaseC
import Derived.Deep.RegionHeld3
set_option maxHeartbeats 128000000
set_option linter.unusedVariables false
namespace Go.Proofs.YtlacjhjckkablaaGreatDoor
open Go.Proofs.Tryz
open Go.RowKit
def ComOK (m n p:Nat):Prop:=p=Nat.gcd m n∨(0 < p∧Nat.gcd m n ∣ p∧p*18446744073709551616≤n)
structure ComS (m n i p q:Nat):Prop where
 gcd:Nat.gcd p q=Nat.gcd m n
 size:1≤i→q < p∧p*2 ^ ((i - 1) / 2)≤n∧q*2 ^ (i / 2)≤n
 first:i=0→p=m∧q=n
theorem comS_step {m n i p q:Nat} (h:ComS m n i p q) (hq:0 < q):ComS m n (i+1) q (p % q):=by
 have hlt:=Nat.mod_lt p hq;refine⟨?_,fun _=>⟨hlt,?_,?_⟩,fun h0=>by omega⟩
 ·rw[← h.gcd,Nat.gcd_comm p q,Nat.gcd_rec q p,Nat.gcd_comm]
 ·rw[Nat.add_sub_cancel];rcases Nat.eq_zero_or_pos i with h0|h0
  ·subst h0;obtain⟨rfl,rfl⟩:=h.first rfl;simp
  ·exact(h.size h0).2.2
 ·rcases Nat.eq_zero_or_pos i with h0|h0
  ·subst h0;obtain⟨rfl,rfl⟩:=h.first rfl;simp;omega
  ·obtain⟨h1,h2,h3⟩:=h.size h0;have e:(i+1) / 2=(i - 1) / 2+1:=(by omega);have h4:p % q*2≤p:=by
    have h5:=Nat.div_add_mod p q;have h6:1≤p / q:=(Nat.le_div_iff_mul_le hq).2 (by omega);have h7:=Nat.mul_le_mul_left q h6;omega
   rw[e,Nat.pow_succ,Nat.mul_comm (2 ^ _) 2,← Nat.mul_assoc];exact Nat.le_trans (Nat.mul_le_mul_right _ h4) h2
theorem comS_end {m n i p:Nat} (h:ComS m n i p 0):ComOK m n p:=.inl (by rw[← h.gcd,Nat.gcd_zero_right])
theorem comS_early {m n i p q:Nat} (h:ComS m n i p q) (hq:0 < q) (hi:64*((digs p).length+(digs q).length)+2≤i):ComOK m n p:=by
 have hql:1≤(digs q).length:=by
  rcases Nat.eq_zero_or_pos (digs q).length with h0|h0
  ·have:=(digs_len q 0).1 (by omega);simp at this;omega
  ·exact h0
 obtain⟨h1,h2,h3⟩:=h.size (by omega);have hpl:1≤(digs p).length:=by
  rcases Nat.eq_zero_or_pos (digs p).length with h0|h0
  ·have:=(digs_len p 0).1 (by omega);simp at this;omega
  ·exact h0
 refine .inr ⟨by omega,by rw[← h.gcd];exact Nat.gcd_dvd_left p q,?_⟩;have h4:(2:Nat) ^ 64≤2 ^ ((i - 1) / 2):=Nat.pow_le_pow_right (by decide) (by omega);have e:(2:Nat) ^ 64=18446744073709551616:=(by decide +kernel);rw[e]at h4;exact Nat.le_trans (Nat.mul_le_mul_left p h4) h2
def ComAt (m n g:Nat) (w wr:World) (x y i:Value):Prop:=∃ p q k:Nat,g=q∧NatV wr x p∧NatV wr y q∧i=.int .i64 (k:Nat)∧ComS m n k p q∧(digs p).length≤100000∧(digs q).length≤100000∧k≤64*200000+2∧Below w.heap.size w wr
def RetCom (w:World) (m n:Nat) (e:Ending) (w':World):Prop:=∃ v p,e=.returned v∧NatV w' v p∧ComOK m n p∧(digs p).length≤100000∧Below w.heap.size w w'
set_option maxRecDepth 100000 in theorem common_any (m n : Nat) (a b : Option Addr) (ca cb : Nat) (hm : (digs m).length ≤ 100000) (hn : (digs n).length ≤ 100000) (w : World) (hs : SlD w a ca (digs m)) (ht : SlD w b cb (digs n)) :
  Calls prog 211 #[.slice a (digs m).length ca,.slice b (digs n).length cb] w (RetCom w m n):=by
 have HS:=Qh (show NatV w (.slice a (digs m).length ca) m from ⟨a,ca,rfl,hs⟩);have HT:=Qh (show NatV w (.slice b (digs n).length cb) n from ⟨b,cb,rfl,ht⟩);clear hs ht;go_enter func211,ntmps211
 go_wp2_with fail;go_loopg [0,1,5] n (fun g x y i wr=>ComAt m n g w wr x y i)
 case atStart=>exact⟨m,n,0,rfl,HS.out,HT.out,rfl,⟨rfl,fun h=>by omega,fun _=>⟨rfl,rfl⟩⟩,hm,hn,by omega,Below.refl _ _⟩
 case round=>
  obtain⟨p,q,k,hg,⟨ap,cp,rfl,hsp⟩,⟨aq,cq,rfl,hsq⟩,rfl,hc,hlp,hlq,hk,hb⟩:=hrel;obtain⟨gq,hgq⟩:∃ x,x=gk:=⟨_,rfl⟩
  subst hgq;have HG:=Qh hg;have HC:=Qh hc;clear hg hc;have hq0:(digs q).length=0↔q=0:=(by rw[List.length_eq_zero_iff,digs_nil]);have HNP:=Qh (show NatV wr (.slice ap (digs p).length cp) p from ⟨ap,cp,rfl,hsp⟩);have HNQ:=Qh (show NatV wr (.slice aq (digs q).length cq) q from ⟨aq,cq,rfl,hsq⟩);have HEARLY:=Qh (fun hq hi=>comS_early HC.out (q:=q) hq hi);by_cases hz:q=0
  ·have hl0:(digs q).length=0:=hq0.2 hz;have HE:=Qh (show ComOK m n p by subst hz;exact comS_end HC.out);rw[hl0]at *;clear hq0 hl0 hz hsp hsq HC HEARLY HG HS HT hm hn;generalize hlpe:(digs p).length=lp at *;have HLP:=Qh hlpe;clear hlpe;by_cases hlim:(k:Int) < 64*(lp:Int)+2
   ·go_wp2_with fail;go_ret;exact⟨_,p,rfl,HNP.out,HE.out,by rw[HLP.out];exact hlp,hb⟩
   ·go_wp2_with fail;go_ret;exact⟨_,p,rfl,HNP.out,HE.out,by rw[HLP.out];exact hlp,hb⟩
  ·have hql:0 < (digs q).length:=(by omega);have cdv:=divided_any p q (by omega) ap aq cp cq hlp hlq wr hsp hsq;have HST:=Qh (comS_step HC.out (show 0 < q by omega));have hml:(digs (p % q)).length≤(digs q).length:=(digs_len _ _).2 (Nat.lt_of_lt_of_le (Nat.mod_lt p (by omega)) (Nat.le_of_lt ((digs_len q _).1 lrf)));have HML:=Qh (show(digs (p % q)).length≤100000 by omega);have HLT:=Qh (Nat.mod_lt p (show 0 < q by omega));have hq1:0 < q:=(by omega);have HQ1:=Qh hq1;clear hq0 hz hsp hsq HC hml hq1 HS HT hm hn;generalize hlpe:(digs p).length=lp at *;generalize hlqe:(digs q).length=lq at *;have HLP:=Qh hlpe;have HLQ:=Qh hlqe;clear hlpe hlqe;by_cases hlim:(k:Int) < 64*((lp:Int)+(lq:Int))+2
   ·have hq2:(0:Int) < lq:=(by omega);go_wp2_with fail;(with_reducible refine cdv.mono ?_);rintro e w1 ⟨v,u,rfl,hnv,hnu,hb1⟩;have HNU:=Qh hnu;have HNQ1:=Qh (HNQ.out.keep hb1);have HB1:=Qh (bstep hb hb1 lrf);clear hnv hnu hb1 cdv;go_wp2_with fail;go_roundg (p % q)
    case measure=>rw[HG.out];exact HLT.out
    case rel=>exact⟨q,p % q,k+1,rfl,HNQ1.out,HNU.out,by go_num,HST.out,by rw[HLQ.out];exact hlq,HML.out,by omega,HB1.out⟩
   ·have HE:=Qh (HEARLY.out HQ1.out (by omega));clear cdv;go_wp2_with fail;go_ret;exact⟨_,p,rfl,HNP.out,HE.out,by rw[HLP.out];exact hlp,hb⟩
def refV (r:Option (Int×Int)):Value:=
 match r with
 | some (n,d)=>.tuple #[.agg #[.int .i64 n,.int .i64 d],.int .i64 0]
 | none=>.tuple #[.agg #[.int .i64 0,.int .i64 0],.int .i64 9]
theorem frac_zero (neg:Bool) (D:Nat):frac neg 0 D=some (0,1):=by
 unfold frac;rw[Nat.zero_div];exact fitE_zero _ _
theorem lowest_val (neg:Bool) (N D p:Nat) (h:ComOK N D p) (hN:N≠0) (hD:0 < D) :
  frac neg N D=(if 9223372036854775807 < D / p∨9223372036854775808 < N / p∨(N / p=9223372036854775808∧neg=false) then none else some (sgn neg (N / p),((D / p:Nat):Int)))∧0 < p:=by
 have hg:0 < Nat.gcd N D:=Nat.gcd_pos_of_pos_right N hD;rcases h with rfl|⟨hp,hdv,hle⟩
 ·refine⟨?_,hg⟩;have h0:N / Nat.gcd N D≠0:=by
   have h1:=Nat.div_mul_cancel (Nat.gcd_dvd_left N D);intro h2;rw[h2]at h1;simp at h1;omega
  unfold frac fitE;rw[if_neg h0]
 ·have h1:18446744073709551616≤D / p:=(by rw[Nat.le_div_iff_mul_le hp,Nat.mul_comm];exact hle);have h2:D / p≤D / Nat.gcd N D:=Nat.div_le_div_left (Nat.le_of_dvd hp hdv) hg;refine⟨?_,hp⟩;rw[if_pos (.inl (by omega))];have h0:N / Nat.gcd N D≠0:=by
   have h1:=Nat.div_mul_cancel (Nat.gcd_dvd_left N D);intro h2;rw[h2]at h1;simp at h1;omega
  unfold frac fitE;rw[if_neg h0,if_pos (.inl (by omega))]
theorem neg_back (k:Nat) (h:k≤9223372036854775808):wrap64 (-(wrap64 (k:Int))) = -(k:Int):=by
 unfold wrap64;omega
set_option maxRecDepth 100000 in theorem lowest_any (neg : Bool) (N D : Nat) (hD : 0 < D) (hn : (digs N).length ≤ 100000) (hd : (digs D).length ≤ 100000) (a b : Option Addr) (ca cb : Nat) (w : World) (hs : SlD w a ca (digs N)) (ht : SlD w b cb (digs D)) :
  Calls prog 184 #[.agg #[.bool neg,.slice a (digs N).length ca,.slice b (digs D).length cb]] w fun e w'=>e=.returned (refV (frac neg N D))∧Below w.heap.size w w':=by
 obtain⟨ta,tr,hsz,hbw⟩:=box2 w #[.bool neg,.slice a (digs N).length ca,.slice b (digs D).length cb] #[.int .i64 0,.int .i64 0] 314 80;have HS:=Qh (show NatV w (.slice a (digs N).length ca) N from ⟨a,ca,rfl,hs⟩);have HT:=Qh (show NatV w (.slice b (digs D).length cb) D from ⟨b,cb,rfl,ht⟩);have TA:=Qh ta;have TR:=Qh tr;have HB:=Qh hbw;clear ta tr hsz;by_cases hN:N=0
 ·subst hN;have hl0:(digs 0).length=0:=(by rw[digs_zero];rfl);rw[frac_zero];rw[hl0]at *;clear HS HT hs ht hbw;go_enter func184,ntmps184
  go_wp2_with fail;exact bodyPost_ret (v:=.tuple #[.agg #[.int .i64 0,.int .i64 1],.int .i64 0]) (by simp[results,results184,go_sem]) rfl ⟨rfl,by first|exact((Below.refl _ _).alloc lrf _).alloc (by simp) _|exact(HB.out.setCell (by simp) _).setCell (by simp) _⟩
 ·have hl0:¬ (digs N).length=0:=(by rw[List.length_eq_zero_iff,digs_nil];exact hN);have hl1:(((digs N).length:Int) == 0)=false:=(by rw[beq_eq_false_iff_ne];omega);obtain⟨F,hF⟩:∃ F,F=frac neg N D:=⟨_,rfl⟩
  rw[← hF];have HF:=Qh hF;have cc:=common_any N D a b ca cb hn hd _ (hs.keep hbw lrf) (ht.keep hbw lrf);have HN0:=Qh hN;have HD0:=Qh hD;clear hF hs ht hbw hN hl0;go_enter func184,ntmps184
  go_wp2_with fail;(with_reducible refine cc.mono ?_);rintro e w1 ⟨v,p,rfl,⟨ap,cp,rfl,hsp⟩,hcom,hlp,hb1⟩;obtain⟨hfv,hp⟩:=lowest_val neg N D p hcom HN0.out HD0.out;rw[← HF.out]at hfv;have HFV:=Qh hfv;have HSP:=Qh hsp;have HP:=Qh hp;replace TA:=Qh (TA.out.keep hb1 lrf);replace TR:=Qh (TR.out.keep hb1 lrf);have HB1:=Qh (bstep HB.out hb1 lrf);obtain⟨y0,y1,y2,y3,y4,y5⟩:=TA.out.three;obtain⟨aN,cN,hNe,hsN⟩:=HS.out.keep HB1.out;obtain⟨aD,cD,hDe,hsD⟩:=HT.out.keep HB1.out;simp only[Value.slice.injEq,true_and]at hNe hDe;obtain⟨rfl,rfl⟩:=hNe;obtain⟨rfl,rfl⟩:=hDe;have d1:=divided_any N p hp a ap ca cp hn hlp w1 hsN hsp;clear cc hcom hfv hsp hp hb1 hsN hsD;go_wp2_with fail;(with_reducible refine d1.mono ?_);rintro e w2 ⟨v1,u1,rfl,⟨a1,c1,rfl,hs1⟩,_,hb2⟩;replace TA:=Qh (TA.out.keep hb2 lrf);replace TR:=Qh (TR.out.keep hb2 lrf);have HB2:=Qh (bstep HB1.out hb2 lrf);clear y0 y1 y2 y3 y4 y5;obtain⟨y0,y1,y2,y3,y4,y5⟩:=TA.out.three;obtain⟨aD,cD,hDe,hsD⟩:=HT.out.keep HB2.out;simp only[Value.slice.injEq,true_and]at hDe;obtain⟨rfl,rfl⟩:=hDe;have d2:=divided_any D p HP.out b ap cb cp hd hlp w2 hsD (HSP.out.keep hb2 lrf);have HS1:=Qh hs1;clear d1 hb2 hsD hs1;go_wp2_with fail;(with_reducible refine d2.mono ?_);rintro e w3 ⟨v2,u2,rfl,⟨a2,c2,rfl,hs2⟩,_,hb3⟩;replace TA:=Qh (TA.out.keep hb3 lrf);replace TR:=Qh (TR.out.keep hb3 lrf);have HB3:=Qh (bstep HB2.out hb3 lrf);have e1:=word_any (N / p) a1 c1 w3 (HS1.out.keep hb3 lrf);have e2:=word_any (D / p) a2 c2 w3 hs2;clear y0 y1 y2 y3 y4 y5 d2 hb3 hs2;generalize N / p=x at *;generalize D / p=y at *;obtain⟨one,hone⟩:∃ o,o=decide (x < 18446744073709551616):=⟨_,rfl⟩
  obtain⟨two,htwo⟩:∃ o,o=decide (y < 18446744073709551616):=⟨_,rfl⟩
  have hxm:=Nat.mod_lt x (show 0 < 18446744073709551616 by decide);have hym:=Nat.mod_lt y (show 0 < 18446744073709551616 by decide);have HXM:=Qh (fun h:x < 18446744073709551616=>Nat.mod_eq_of_lt h);have HYM:=Qh (fun h:y < 18446744073709551616=>Nat.mod_eq_of_lt h);rw[← hone]at e1;rw[← htwo]at e2;generalize x % 18446744073709551616=xm at *;generalize y % 18446744073709551616=ym at *;have HONE:=Qh hone;have HTWO:=Qh htwo;clear hone htwo;generalize hlx:(digs x).length=lx at *;generalize hly:(digs y).length=ly at *;clear hlx hly;obtain⟨y0,y1,y2,y3,y4,y5⟩:=TA.out.three;obtain⟨r0,r1,r2,r3⟩:=TR.out.two;go_wp2_with fail;(with_reducible refine e1.mono ?_);rintro e w4 ⟨rfl,rfl⟩;go_wp2_with fail;(with_reducible refine e2.mono ?_);rintro e w4 ⟨rfl,rfl⟩;clear e1 e2;have nx1:(xm:Int)≤18446744073709551615:=(by omega);have ny1:(ym:Int)≤18446744073709551615:=(by omega);clear hxm hym;by_cases hov:9223372036854775807 < y∨9223372036854775808 < x∨(x=9223372036854775808∧neg=false)
  ·have HNONE:=Qh (show F=none by rw[HFV.out,if_pos hov]);cases one
   ·clear hov;go_wp2_with fail;exact bodyPost_ret (v:=.tuple #[.agg #[.int .i64 0,.int .i64 0],.int .i64 9]) (by simp[results,results184,go_sem,r0,r1]) rfl ⟨by rw[HNONE.out];rfl,(HB3.out.setCell (by simp) _).setCell (by simp) _⟩
   ·have hx64:x < 18446744073709551616:=of_decide_eq_true HONE.out.symm;have hxx:=HXM.out hx64;cases two
    ·clear hov hxx hx64;go_wp2_with fail;exact bodyPost_ret (v:=.tuple #[.agg #[.int .i64 0,.int .i64 0],.int .i64 9]) (by simp[results,results184,go_sem,r0,r1]) rfl ⟨by rw[HNONE.out];rfl,(HB3.out.setCell (by simp) _).setCell (by simp) _⟩
    ·have hy64:y < 18446744073709551616:=of_decide_eq_true HTWO.out.symm;have hyy:=HYM.out hy64;by_cases c3:9223372036854775807 < y
     ·have k3:9223372036854775807 < (ym:Int):=(by omega);clear hov hxx hyy hx64 hy64 c3;go_wp2_with fail;exact bodyPost_ret (v:=.tuple #[.agg #[.int .i64 0,.int .i64 0],.int .i64 9]) (by simp[results,results184,go_sem,r0,r1]) rfl ⟨by rw[HNONE.out];rfl,(HB3.out.setCell (by simp) _).setCell (by simp) _⟩
     ·have k3:¬ 9223372036854775807 < (ym:Int):=(by omega);by_cases c4:9223372036854775808 < x
      ·have k4:9223372036854775808 < (xm:Int):=(by omega);clear hov hxx hyy hx64 hy64 c3 c4;go_wp2_with fail;exact bodyPost_ret (v:=.tuple #[.agg #[.int .i64 0,.int .i64 0],.int .i64 9]) (by simp[results,results184,go_sem,r0,r1]) rfl ⟨by rw[HNONE.out];rfl,(HB3.out.setCell (by simp) _).setCell (by simp) _⟩
      ·have k4:¬ 9223372036854775808 < (xm:Int):=(by omega);obtain⟨hx63,rfl⟩:x=9223372036854775808∧neg=false:=by
        rcases hov with h|h|h
        ·omega
        ·omega
        ·exact h
       have k5:((xm:Int) == 9223372036854775808)=true:=(by rw[beq_iff_eq];omega);clear hov hxx hyy hx64 hy64 c3 c4 hx63;go_wp2_with fail;exact bodyPost_ret (v:=.tuple #[.agg #[.int .i64 0,.int .i64 0],.int .i64 9]) (by simp[results,results184,go_sem,r0,r1]) rfl ⟨by rw[HNONE.out];rfl,(HB3.out.setCell (by simp) _).setCell (by simp) _⟩
  ·have HSOME:=Qh (show F=some (sgn neg x,(y:Int))by rw[HFV.out,if_neg hov]);have hx64:x < 18446744073709551616:=(by omega);have hy64:y < 18446744073709551616:=(by omega);have hxx:=HXM.out hx64;have hyy:=HYM.out hy64;subst hxx hyy;have o1:one=true:=(by rw[HONE.out];exact decide_eq_true hx64);have o2:two=true:=(by rw[HTWO.out];exact decide_eq_true hy64);subst o1 o2;have k3:¬ 9223372036854775807 < (ym:Int):=(by omega);have k4:¬ 9223372036854775808 < (xm:Int):=(by omega);have HNB:=Qh (neg_back xm (by omega));cases neg
   ·have k5:((xm:Int) == 9223372036854775808)=false:=by
     rw[beq_eq_false_iff_ne];intro h;exact hov (.inr (.inr ⟨by omega,rfl⟩))
    have k6:(xm:Int)≤9223372036854775807:=(by rw[beq_eq_false_iff_ne]at k5;omega);clear hov hx64 hy64;go_wp2_with fail;exact bodyPost_ret (v:=.tuple #[.agg #[.int .i64 xm,.int .i64 ym],.int .i64 0]) (by simp[results,results184,go_sem,r0,r1]) rfl ⟨by rw[HSOME.out];rfl,(HB3.out.setCell (by simp) _).setCell (by simp) _⟩
   ·clear hov hx64 hy64;by_cases c5:(xm:Int)=9223372036854775808
    ·have k5:((xm:Int) == 9223372036854775808)=true:=(by rw[beq_iff_eq];exact c5);clear c5;go_wp2_with fail;exact bodyPost_ret (v:=.tuple #[.agg #[.int .i64 (wrap64 (-(wrap64 (xm:Int)))),.int .i64 ym],.int .i64 0]) (by simp[results,results184,go_sem,r0,r1]) rfl ⟨by rw[HNB.out,HSOME.out];rfl,(HB3.out.setCell (by simp) _).setCell (by simp) _⟩
    ·have k5:((xm:Int) == 9223372036854775808)=false:=(by rw[beq_eq_false_iff_ne];exact c5);have k6:(xm:Int)≤9223372036854775807:=(by omega);clear c5;go_wp2_with fail;exact bodyPost_ret (v:=.tuple #[.agg #[.int .i64 (-(xm:Int)),.int .i64 ym],.int .i64 0]) (by simp[results,results184,go_sem,r0,r1]) rfl ⟨by rw[HSOME.out];rfl,(HB3.out.setCell (by simp) _).setCell (by simp) _⟩
theorem Blk.set {w:World} {k:Nat} {cs:Array Value} (h:Blk w k cs) (j:Nat) (v:Value):Blk (w.setCell ⟨k,j,none⟩ v) k (cs.setIfInBounds j v):=by
 obtain⟨T,h⟩:=h;refine⟨T,?_⟩;simp[World.setCell,Array.getElem?_modify,h]
end Go.Proofs.YtlacjhjckkablaaGreatDoor
