/-
  Contracts of rat's Div, Add, Sub.
-/
import Derived.Test.YtkblpaabknjckaaGreatDoorRatE
import Derived.Test.YtkblpaabknjckaaGreatDoorBaseD
import Derived.Test.YtkblpaabknjckaaGreatDoorCalm
set_option maxHeartbeats 128000000
set_option linter.unusedVariables false
namespace Go.Proofs.YtkblpaabknjckaaGreatDoor
open Go.RowKit
theorem bdrN {B:Nat} {a w:World} (h:Below B a w) (n:Nat):Below B a (w.drewN n):=⟨h.os,h.tape,h.output,h.size,h.block⟩
def argV:Value:=.tuple #[.agg #[.int .i64 0,.int .i64 0],errV 1]
open Go.Proofs.Tryz
theorem ratV_shape (F:Option (Int×Int)):∃ n d er,ratV F=.tuple #[.agg #[.int .i64 n,.int .i64 d],er]:=by
 cases F with
 | none=>exact⟨0,0,errV 9,rfl⟩
 | some p=>exact⟨p.1,p.2,.nilIface,rfl⟩
set_option maxRecDepth 100000 in theorem product_any (neg : Bool) (an ad bn bd : Nat) (ha : Nat.gcd an ad = 1) (hb : Nat.gcd bn bd = 1) (h1 : 0 < ad) (h2 : 0 < bd) (k1 : an < 18446744073709551616) (k2 : ad < 18446744073709551616) (k3 : bn < 18446744073709551616) (k4 : bd < 18446744073709551616) (w : World) :
  Calls prog 205 #[.bool neg,.int .u64 an,.int .u64 ad,.int .u64 bn,.int .u64 bd] w fun e w'=>e=.returned (ratV (fracI (sgn neg (an*bn)) (ad*bd)))∧Below w.heap.size w w':=by
 obtain⟨g,hg⟩:∃ g,g=Nat.gcd bd an:=⟨_,rfl⟩
 obtain⟨k,hk⟩:∃ k,k=Nat.gcd ad bn:=⟨_,rfl⟩
 have hF:=prod_frac neg an ad bn bd ha hb h1 h2 g k hg hk;have hg0:0 < g:=hg ▸ Nat.gcd_pos_of_pos_left _ h2
 have hk0:0 < k:=hk ▸ Nat.gcd_pos_of_pos_left _ h1
 have hgle:g≤bd:=hg ▸ Nat.gcd_le_left _ h2
 have hkle:k≤ad:=hk ▸ Nat.gcd_le_left _ h1
 have cg:=fun w'=>gcd_drew an bd k1 k4 w'
 have ck:=fun w'=>gcd_drew bn ad k3 k2 w'
 rw[← hg]at cg;rw[← hk]at ck;clear ha hb hg hk;have d1:an / g≤an:=Nat.div_le_self _ _;have d2:bn / k≤bn:=Nat.div_le_self _ _;have d3:ad / k≤ad:=Nat.div_le_self _ _;have d4:bd / g≤bd:=Nat.div_le_self _ _;have v1:IntKind.u64.wrap ((an:Int) / (g:Int))=((an / g:Nat):Int):=(by rw[← Int.natCast_ediv];exact wrapN _ (by omega));have v2:IntKind.u64.wrap ((bn:Int) / (k:Int))=((bn / k:Nat):Int):=(by rw[← Int.natCast_ediv];exact wrapN _ (by omega));have v3:IntKind.u64.wrap ((ad:Int) / (k:Int))=((ad / k:Nat):Int):=(by rw[← Int.natCast_ediv];exact wrapN _ (by omega));have v4:IntKind.u64.wrap ((bd:Int) / (g:Int))=((bd / g:Nat):Int):=(by rw[← Int.natCast_ediv];exact wrapN _ (by omega));have m1:=Nat.mul_le_mul (show an / g≤18446744073709551615 by omega) (show bn / k≤18446744073709551615 by omega);have m2:=Nat.mul_le_mul (show ad / k≤18446744073709551615 by omega) (show bd / g≤18446744073709551615 by omega);have cM:=Tryz.bits_Mul64 (an / g) (bn / k) (by omega) (by omega);have cD:=Tryz.bits_Mul64 (ad / k) (bd / g) (by omega) (by omega);have cF:=fit_any neg (an / g*(bn / k)) (ad / k*(bd / g)) (by omega) (by omega);rw[hF]at cF;clear hF m1 m2 d1 d2 d3 d4;generalize fracI (sgn neg (an*bn)) (ad*bd)=F at *;generalize an / g*(bn / k)=M at *;generalize ad / k*(bd / g)=D at *;generalize an / g=x1 at *;generalize bn / k=x2 at *;generalize ad / k=x3 at *;generalize bd / g=x4 at *;generalize M / 18446744073709551616=mh at *;generalize M % 18446744073709551616=ml at *;generalize D / 18446744073709551616=dh at *;generalize D % 18446744073709551616=dl at *;have gz:¬ g=0:=(by omega);have kz:¬ k=0:=(by omega);have gz2:((g:Int) == 0)=false:=(by rw[beq_eq_false_iff_ne];omega);have kz2:((k:Int) == 0)=false:=(by rw[beq_eq_false_iff_ne];omega);have i1:(an:Int)≤18446744073709551615:=(by omega);have i2:(ad:Int)≤18446744073709551615:=(by omega);have i3:(bn:Int)≤18446744073709551615:=(by omega);have i4:(bd:Int)≤18446744073709551615:=(by omega);have i5:(g:Int)≤18446744073709551615:=(by omega);have i6:(k:Int)≤18446744073709551615:=(by omega);clear h1 h2 k1 k2 k3 k4 hg0 hk0 hgle hkle;have hbx:=box1 w #[.int .i64 0,.int .i64 0] 87;obtain⟨tr,hsz,hbw⟩:=hbx;have TR:=Qh tr;have HSZ:=Qh hsz;have HBW:=Qh hbw;clear tr hsz hbw;go_enter func205,ntmps205
 go_wp2_with fail;with_reducible refine(cg _).mono ?_
 rintro e w1 ⟨rfl,m1,rfl⟩;go_wp2_with fail;with_reducible refine(ck _).mono ?_
 rintro e w1 ⟨rfl,m2,rfl⟩;clear cg ck;go_wp2_with fail;go_quiet ((go_at_call 197;exact(cM _).mono fun e w1 ⟨he,hw⟩=>⟨he,_,hw⟩))
 go_wp2_with fail;go_quiet ((go_at_call 197;exact(cD _).mono fun e w1 ⟨he,hw⟩=>⟨he,_,hw⟩))
 clear cM cD v1 v2 v3 v4;go_wp2_with fail;with_reducible refine(cF _).mono ?_
 rintro e w2 ⟨rfl,hb2⟩;obtain⟨r0,r1,r2,r3⟩:=((TR.out.drewN _).keep hb2 lrf).two;have HB3:=Qh (show Below w.heap.size w w2 from bstep (bdrN HBW.out _) hb2 lrf);clear hb2 cF;obtain⟨n,d,er,hfv⟩:=ratV_shape F;have HFV:=Qh hfv;rw[hfv];clear hfv;go_wp2_with fail;exact bodyPost_ret (v:=.tuple #[.agg #[.int .i64 n,.int .i64 d],er]) (by simp[results,results205,go_sem,r0,r1]) rfl ⟨by rw[HFV.out],(HB3.out.setCell (by simp) _).setCell (by simp) _⟩
def zeroV:Value:=.tuple #[.agg #[.int .i64 0,.int .i64 0],errV 10]
theorem sgn_div2 (a b:Int) (E:Nat):sgn (decide (a < 0) != decide (b < 0)) (a.natAbs*E)=if b < 0 then -(a*E) else a*E:=by
 rw[sgn_mul];by_cases h1:a < 0<;>by_cases h2:b < 0<;>simp only[h1,h2,decide_true,decide_false,bne_self_eq_false,Bool.true_bne,Bool.false_bne,Bool.not_false,sgn,if_true,Bool.false_eq_true,if_false]
 ·rw[show(a.natAbs:Int) = -a by omega,Int.neg_mul]
 ·rw[show(-(a.natAbs:Int))=a by omega]
 ·rw[show(-(a.natAbs:Int)) = -a by omega,Int.neg_mul]
 ·rw[show(a.natAbs:Int)=a by omega]
def divV (na da nb db:Int):Value:=
 if rightB na da && rightB nb db then (if nb=0 then zeroV else ratV (fracI (if nb < 0 then -(na*db) else na*db) (da.natAbs*nb.natAbs))) else argV
set_option maxRecDepth 100000 in theorem div_bad (na da nb db : Int) (h1 : In64 na) (h2 : In64 da) (h3 : In64 nb) (h4 : In64 db) (hb : rightB na da = false ∨ rightB nb db = false) (w : World) :
  Calls prog 186 #[.agg #[.int .i64 na,.int .i64 da],.agg #[.int .i64 nb,.int .i64 db]] w fun e w'=>e=.returned argV∧Below w.heap.size w w':=by
 have ca:=right_any na da h1 h2;have cb:=right_any nb db h3 h4;have hbx:=box3 w #[.int .i64 na,.int .i64 da] #[.int .i64 nb,.int .i64 db] #[.int .i64 0,.int .i64 0] 87 87 87;obtain⟨ta,tb,tr,hsz,hbw⟩:=hbx;have TA:=Qh ta;have TB:=Qh tb;have TR:=Qh tr;have HSZ:=Qh hsz;have HBW:=Qh hbw;clear ta tb tr hsz hbw;cases ha:rightB na da
 ·rw[ha]at ca;go_enter func186,ntmps186
  go_wp2_with fail;refine(ca _).mono ?_;rintro e w1 ⟨rfl,hb1⟩;clear ca cb;obtain⟨r0,r1,r2,r3⟩:=(TR.out.keep hb1 lrf).two;have HFIN:=Qh (HBW.out.trans (hb1.mono (by rw[HSZ.out];omega)));clear hb1;go_wp2_with fail;exact bodyPost_ret (v:=argV) (by simp[results,results186,go_sem,argV,errV,r0,r1]) rfl ⟨rfl,(HFIN.out.setCell (by simp;omega) _).setCell (by simp;omega) _⟩
 ·have hb':rightB nb db=false:=by
   rcases hb with h|h
   ·rw[ha]at h;cases h
   ·exact h
  rw[ha]at ca;rw[hb']at cb;go_enter func186,ntmps186
  go_wp2_with fail;refine(ca _).mono ?_;rintro e w1 ⟨rfl,hb1⟩;clear ca;have TB1:=Qh (TB.out.keep hb1 lrf);have TR1:=Qh (TR.out.keep hb1 lrf);have HFIN:=Qh (HBW.out.trans (hb1.mono (by rw[HSZ.out];omega)));obtain⟨b0,b1,b2,b3⟩:=TB1.out.two;clear hb1;go_wp2_with fail;refine(cb _).mono ?_;rintro e w2 ⟨rfl,hb2⟩;obtain⟨r0,r1,r2,r3⟩:=(TR1.out.keep hb2 lrf).two;have HFIN2:=Qh (bstep HFIN.out hb2 lrf);clear hb2 b0 b1 b2 b3;go_wp2_with fail;exact bodyPost_ret (v:=argV) (by simp[results,results186,go_sem,argV,errV,r0,r1]) rfl ⟨rfl,(HFIN2.out.setCell (by simp;omega) _).setCell (by simp;omega) _⟩
set_option maxRecDepth 100000 in theorem div_zero (na da nb db : Int) (ha : RightP na da) (hb : RightP nb db) (hn0 : nb = 0) (w : World) :
  Calls prog 186 #[.agg #[.int .i64 na,.int .i64 da],.agg #[.int .i64 nb,.int .i64 db]] w fun e w'=>
   e=.returned zeroV∧Below w.heap.size w w':=by
 have HRA:=Qh ha;have HRB:=Qh hb;obtain⟨a1,a2,a3,a4,a5⟩:=ha;obtain⟨b1,b2,b3,b4,b5⟩:=hb;have ra:rightB na da=true:=(rightB_iff na da ⟨by omega,by omega⟩ ⟨by omega,by omega⟩).2 HRA.out;have rb:rightB nb db=true:=(rightB_iff nb db ⟨by omega,by omega⟩ ⟨by omega,by omega⟩).2 HRB.out;have ca:=right_any na da ⟨by omega,by omega⟩ ⟨by omega,by omega⟩;have cb:=right_any nb db ⟨by omega,by omega⟩ ⟨by omega,by omega⟩;rw[ra]at ca;rw[rb]at cb;clear a5 b5 ra rb;have nz1:(nb == 0)=true:=(by rw[beq_iff_eq];exact hn0);clear hn0;have hbx:=box3 w #[.int .i64 na,.int .i64 da] #[.int .i64 nb,.int .i64 db] #[.int .i64 0,.int .i64 0] 87 87 87;obtain⟨ta,tb,tr,hsz,hbw⟩:=hbx;have TA:=Qh ta;have TB:=Qh tb;have TR:=Qh tr;have HSZ:=Qh hsz;have HBW:=Qh hbw;clear ta tb tr hsz hbw;go_enter func186,ntmps186
 go_wp2_with fail;with_reducible refine(ca _).mono ?_
 rintro e w1 ⟨rfl,hb1⟩;clear ca;have TA1:=Qh (TA.out.keep hb1 lrf);have TB1:=Qh (TB.out.keep hb1 lrf);have TR1:=Qh (TR.out.keep hb1 lrf);have HW1:=Qh (HBW.out.trans (hb1.mono (by rw[HSZ.out];omega)));obtain⟨b0,b1,b2,b3⟩:=TB1.out.two;clear hb1;go_wp2_with fail;with_reducible refine(cb _).mono ?_
 rintro e w2 ⟨rfl,hb2⟩;have TR2:=Qh (TR1.out.keep hb2 lrf);have TB2:=Qh (TB1.out.keep hb2 lrf);have HW2:=Qh (bstep HW1.out hb2 lrf);obtain⟨f0,f1,f2,f3⟩:=(TA1.out.keep hb2 lrf).two;obtain⟨g0,g1,g2,g3⟩:=TB2.out.two;clear hb2 b0 b1 b2 b3 cb TA TB TR TA1 TB1 TR1 HW1 f2 f3 g2 g3;obtain⟨r0,r1,r2,r3⟩:=TR2.out.two;go_wp2_with fail;exact bodyPost_ret (v:=zeroV) (by simp[results,results186,go_sem,zeroV,errV,r0,r1]) rfl ⟨rfl,(HW2.out.setCell (by simp;omega) _).setCell (by simp;omega) _⟩
set_option maxRecDepth 100000 in theorem div_ok (na da nb db : Int) (ha : RightP na da) (hb : RightP nb db) (hn0 : nb ≠ 0) (w : World) :
  Calls prog 186 #[.agg #[.int .i64 na,.int .i64 da],.agg #[.int .i64 nb,.int .i64 db]] w fun e w'=>
   e=.returned (ratV (fracI (if nb < 0 then -(na*db) else na*db) (da.natAbs*nb.natAbs)))∧Below w.heap.size w w':=by
 have HRA:=Qh ha;have HRB:=Qh hb;obtain⟨a1,a2,a3,a4,a5⟩:=ha;obtain⟨b1,b2,b3,b4,b5⟩:=hb;have ra:rightB na da=true:=(rightB_iff na da ⟨by omega,by omega⟩ ⟨by omega,by omega⟩).2 HRA.out;have rb:rightB nb db=true:=(rightB_iff nb db ⟨by omega,by omega⟩ ⟨by omega,by omega⟩).2 HRB.out;have ca:=right_any na da ⟨by omega,by omega⟩ ⟨by omega,by omega⟩;have cb:=right_any nb db ⟨by omega,by omega⟩ ⟨by omega,by omega⟩;rw[ra]at ca;rw[rb]at cb;have csa:=size_any na ⟨by omega,by omega⟩;have csb:=size_any nb ⟨by omega,by omega⟩;obtain⟨D,rfl⟩:=Int.eq_ofNat_of_zero_le (show 0≤da by omega);obtain⟨E,rfl⟩:=Int.eq_ofNat_of_zero_le (show 0≤db by omega);simp only[Int.natAbs_natCast]at *;obtain⟨F,hF⟩:∃ F,F=fracI (if nb < 0 then -(na*(E:Int)) else na*(E:Int)) (D*nb.natAbs):=⟨_,rfl⟩
 rw[← hF];obtain⟨sg,hsg⟩:∃ sg,sg=(decide (na < 0) != decide (nb < 0)):=⟨_,rfl⟩
 have hs1:(!(decide (na < 0) == decide (nb < 0)))=sg:=hsg.symm;have cP:=product_any sg na.natAbs D E nb.natAbs a5 (by rw[Nat.gcd_comm];exact b5) (by omega) (by omega) (by omega) (by omega) (by omega) (by omega);rw[hsg,sgn_div2,← hF,← hsg]at cP;clear hF hsg;have nz1:(nb == 0)=false:=(by rw[beq_eq_false_iff_ne];exact hn0);clear a5 b5 ra rb HRA HRB hn0;generalize na.natAbs=A at *;generalize nb.natAbs=B at *;have hbx:=box3 w #[.int .i64 na,.int .i64 D] #[.int .i64 nb,.int .i64 E] #[.int .i64 0,.int .i64 0] 87 87 87;obtain⟨ta,tb,tr,hsz,hbw⟩:=hbx;have TA:=Qh ta;have TB:=Qh tb;have TR:=Qh tr;have HSZ:=Qh hsz;have HBW:=Qh hbw;clear ta tb tr hsz hbw;go_enter func186,ntmps186
 go_wp2_with fail;with_reducible refine(ca _).mono ?_
 rintro e w1 ⟨rfl,hb1⟩;clear ca;have TA1:=Qh (TA.out.keep hb1 lrf);have TB1:=Qh (TB.out.keep hb1 lrf);have TR1:=Qh (TR.out.keep hb1 lrf);have HW1:=Qh (HBW.out.trans (hb1.mono (by rw[HSZ.out];omega)));obtain⟨b0,b1,b2,b3⟩:=TB1.out.two;clear hb1;go_wp2_with fail;with_reducible refine(cb _).mono ?_
 rintro e w2 ⟨rfl,hb2⟩;have TR2:=Qh (TR1.out.keep hb2 lrf);have TB2:=Qh (TB1.out.keep hb2 lrf);have HW2:=Qh (bstep HW1.out hb2 lrf);obtain⟨f0,f1,f2,f3⟩:=(TA1.out.keep hb2 lrf).two;obtain⟨g0,g1,g2,g3⟩:=TB2.out.two;clear hb2 b0 b1 b2 b3 cb TA TB TR TA1 TB1 TR1 HW1 f2 f3 g2 g3;obtain⟨n,d,er,hfv⟩:=ratV_shape F;have HFV:=Qh hfv;rw[hfv]at cP;clear hfv;go_wp2_with fail;have l0:=fun x:Later w2=>Later.cell f0 x
 have l1:=fun x:Later w2=>Later.cell f1 x
 have l2:=fun x:Later w2=>Later.cell g0 x
 have l3:=fun x:Later w2=>Later.cell g1 x
 refine wp_region_later 22 (by kernel_rfl) (by kernel_rfl) ?_;simp only[List.take_succ_cons,List.take_zero,List.drop_succ_cons,List.drop_zero]
 repeat (go_big_quiet_step ((first|(go_at_call 172;with_reducible exact Later.same (csa _))|(go_at_call 172;with_reducible exact Later.same (csb _))|(go_at_call 205;with_reducible exact Later.made (cP _)))))
 refine wpQuiet_nil ?_;rintro _ ⟨x,rfl⟩;clear l0 l1 l2 l3 f0 f1 g0 g1;obtain⟨r0,r1,r2,r3⟩:=(Later.blk TR2.out x).two;have HB3:=Qh (bstep HW2.out x.below lrf);generalize x.w=w3 at *;go_wp2_with fail;exact bodyPost_ret (v:=.tuple #[.agg #[.int .i64 n,.int .i64 d],er]) (by simp[results,results186,go_sem,r0,r1]) rfl ⟨by rw[HFV.out],(HB3.out.setCell (by simp;omega) _).setCell (by simp;omega) _⟩
theorem div_any (na da nb db:Int) (h1:In64 na) (h2:In64 da) (h3:In64 nb) (h4:In64 db) (w:World) :
  Calls prog 186 #[.agg #[.int .i64 na,.int .i64 da],.agg #[.int .i64 nb,.int .i64 db]] w fun e w'=>e=.returned (divV na da nb db)∧Below w.heap.size w w':=by
 unfold divV;cases ha:rightB na da
 ·exact div_bad na da nb db h1 h2 h3 h4 (.inl ha) w
 ·cases hb:rightB nb db
  ·exact div_bad na da nb db h1 h2 h3 h4 (.inr hb) w
  ·have ra:=(rightB_iff na da h1 h2).1 ha;have rb:=(rightB_iff nb db h3 h4).1 hb;by_cases h0:nb=0
   ·have:=div_zero na da nb db ra rb h0 w
    simpa [h0]using this
   ·have:=div_ok na da nb db ra rb h0 w
    simpa [h0]using this
end Go.Proofs.YtkblpaabknjckaaGreatDoor
