/-
  Contracts of rat's Div, Add, Sub.
-/
import Derived.Test.YtfflljgnpfldfaaGreatDoorRatD
import Derived.Test.YtfflljgnpfldfaaGreatDoorNatT
set_option linter.all false
set_option maxHeartbeats 128000000
set_option maxRecDepth 100000
namespace Go.Proofs.YtfflljgnpfldfaaGreatDoor
open Go.RowKit
theorem arA {B:Nat} {a w:World} (h:Below B a w) (n:Nat):Below B a (w.drewN n):=⟨h.os,h.tape,h.output,h.size,h.block⟩
def KB:Value:=.tuple #[.agg #[.int .i64 0,.int .i64 0],dE 1]
open Go.Proofs.Tryz
theorem ahr (F:Option (Int×Int)):∃ n d er,kT F=.tuple #[.agg #[.int .i64 n,.int .i64 d],er]:=by
 cases F with
 | none=>exact⟨0,0,dE 9,rfl⟩
 | some p=>exact⟨p.1,p.2,.nilIface,rfl⟩
theorem arB (neg:Bool) (an ad bn bd:Nat) (ha:Nat.gcd an ad=1) (hb:Nat.gcd bn bd=1) (h1:0 < ad) (h2:0 < bd) (k1:an < 18446744073709551616) (k2:ad < 18446744073709551616) (k3:bn < 18446744073709551616) (k4:bd < 18446744073709551616) (w:World) :
  Calls prog 271 #[.bool neg,.int .u64 an,.int .u64 ad,.int .u64 bn,.int .u64 bd] w fun e w'=>e=.returned (kT (Ao (fh neg (an*bn)) (ad*bd)))∧Below w.heap.size w w':=by
 obtain⟨g,hg⟩:∃ g,g=Nat.gcd bd an:=⟨_,rfl⟩
 obtain⟨k,hk⟩:∃ k,k=Nat.gcd ad bn:=⟨_,rfl⟩
 have hF:=arC neg an ad bn bd ha hb h1 h2 g k hg hk;have hg0:0 < g:=hg ▸ Nat.gcd_pos_of_pos_left _ h2
 have hk0:0 < k:=hk ▸ Nat.gcd_pos_of_pos_left _ h1
 have arD:g≤bd:=hg ▸ Nat.gcd_le_left _ h2
 have arE:k≤ad:=hk ▸ Nat.gcd_le_left _ h1
 have cg:=fun w'=>Z0 an bd k1 k4 w'
 have ck:=fun w'=>Z0 bn ad k3 k2 w'
 rw[← hg]at cg;rw[← hk]at ck;clear ha hb hg hk;have d1:an / g≤an:=Fz _ _;have d2:bn / k≤bn:=Fz _ _;have d3:ad / k≤ad:=Fz _ _;have d4:bd / g≤bd:=Fz _ _;have v1:IntKind.u64.wrap ((an:Int) / (g:Int))=((an / g:Nat):Int):=PG;have v2:IntKind.u64.wrap ((bn:Int) / (k:Int))=((bn / k:Nat):Int):=PG;have v3:IntKind.u64.wrap ((ad:Int) / (k:Int))=((ad / k:Nat):Int):=PG;have v4:IntKind.u64.wrap ((bd:Int) / (g:Int))=((bd / g:Nat):Int):=PG;have m1:=Nat.mul_le_mul (show an / g≤18446744073709551615 by omega) (show bn / k≤18446744073709551615 by omega);have m2:=Nat.mul_le_mul (show ad / k≤18446744073709551615 by omega) (show bd / g≤18446744073709551615 by omega);have cM:=Tryz.bits_Mul64 (an / g) (bn / k) ae ae;have cD:=Tryz.bits_Mul64 (ad / k) (bd / g) ae ae;have cF:=Yi neg (an / g*(bn / k)) (ad / k*(bd / g)) ae ae;rw[hF]at cF;clear hF m1 m2 d1 d2 d3 d4;generalize Ao (fh neg (an*bn)) (ad*bd)=F at *;generalize an / g*(bn / k)=M at *;generalize ad / k*(bd / g)=D at *;generalize an / g=x1 at *;generalize bn / k=x2 at *;generalize ad / k=x3 at *;generalize bd / g=x4 at *;generalize M / 18446744073709551616=mh at *;generalize M % 18446744073709551616=ml at *;generalize D / 18446744073709551616=dh at *;generalize D % 18446744073709551616=dl at *;have gz:¬ g=0:=ae;have kz:¬ k=0:=ae;have gz2:((g:Int) == 0)=false:=ft;have kz2:((k:Int) == 0)=false:=ft;have i1:(an:Int)≤18446744073709551615:=ae;have i2:(ad:Int)≤18446744073709551615:=ae;have i3:(bn:Int)≤18446744073709551615:=ae;have i4:(bd:Int)≤18446744073709551615:=ae;have i5:(g:Int)≤18446744073709551615:=ae;have i6:(k:Int)≤18446744073709551615:=ae;clear h1 h2 k1 k2 k3 k4 hg0 hk0 arD arE;have ix:=ri w #[.int .i64 0,.int .i64 0] 61;obtain⟨tr,hsz,bh⟩:=ix;refine aY tr hsz bh ?_;intro TR gD bE;clear tr hsz bh;go_enter func271,ntmps271
 go_wp2_with fail;refine aI (cg _) ?_
 rintro e w1 ⟨rfl,m1,rfl⟩;go_wp2_with fail;refine aI (ck _) ?_
 rintro e w1 ⟨rfl,m2,rfl⟩;clear cg ck;go_wp2_with fail;go_quiet ((go_at_call 267;exact(cM _).mono fun e w1 ⟨he,hw⟩=>⟨he,_,hw⟩))
 go_wp2_with fail;go_quiet ((go_at_call 267;exact(cD _).mono fun e w1 ⟨he,hw⟩=>⟨he,_,hw⟩))
 clear cM cD v1 v2 v3 v4;go_wp2_with fail;refine aQ (cF _) ?_;intro w2 hb2
 obtain⟨r0,r1,r2,r3⟩:=((TR.o.drewN _).keep hb2 af).two;have bT:=Qh (show Below w.heap.size w w2 from aH (arA bE.o _) hb2 af);clear hb2 cF;obtain⟨n,d,er,yw⟩:=ahr F;have JK:=Qh yw;rw[yw];clear yw;go_wp2_with fail;exact bB (v:=.tuple #[.agg #[.int .i64 n,.int .i64 d],er]) (by simp[results,results271,go_sem,r0,r1]) rfl ⟨by rw[JK.o],(bT.o.setCell aB _).setCell aB _⟩
def zeroV:Value:=.tuple #[.agg #[.int .i64 0,.int .i64 0],dE 10]
theorem arF (a b:Int) (E:Nat):fh (decide (a < 0) != decide (b < 0)) (a.natAbs*E)=if b < 0 then -(a*E) else a*E:=by
 rw[Am];by_cases h1:a < 0<;>by_cases h2:b < 0<;>simp only[h1,h2,decide_true,decide_false,bne_self_eq_false,Bool.true_bne,Bool.false_bne,Bool.not_false,fh,kG,zC,tj]
 ·rw[show(a.natAbs:Int) = -a by omega,Int.neg_mul]
 ·rw[show(-(a.natAbs:Int))=a by omega]
 ·rw[show(-(a.natAbs:Int)) = -a by omega,Int.neg_mul]
 ·rw[show(a.natAbs:Int)=a by omega]
def Yn (na da nb db:Int):Value:=
 if oV na da && oV nb db then (if nb=0 then zeroV else kT (Ao (if nb < 0 then -(na*db) else na*db) (da.natAbs*nb.natAbs))) else KB
theorem ahs (na da nb db:Int) (h1:In64 na) (h2:In64 da) (h3:In64 nb) (h4:In64 db) (hb:oV na da=false∨oV nb db=false) (w:World) :
  Calls prog 255 #[.agg #[.int .i64 na,.int .i64 da],.agg #[.int .i64 nb,.int .i64 db]] w fun e w'=>e=.returned KB∧Below w.heap.size w w':=by
 have ca:=OM na da h1 h2;have cb:=OM nb db h3 h4;have ix:=VF w #[.int .i64 na,.int .i64 da] #[.int .i64 nb,.int .i64 db] #[.int .i64 0,.int .i64 0] 61 61 61;obtain⟨ta,tb,tr,hsz,bh⟩:=ix;have TA:=Qh ta;clear ta;refine fx tb tr hsz bh ?_;clear tb tr hsz bh;intro TB TR gD bE;cases ha:oV na da
 ·rw[ha]at ca;go_enter func255,ntmps255
  go_wp2_with fail;refine(ca _).mono ?_;rintro e w1 ⟨rfl,hb1⟩;clear ca cb;obtain⟨r0,r1,r2,r3⟩:=(TR.o.keep hb1 af).two;have Z8:=Qh (bE.o.trans (hb1.mono (by rw[gD.o];omega)));clear hb1;go_wp2_with fail;exact bB (v:=KB) (by simp[results,results255,go_sem,KB,dE,r0,r1]) rfl ⟨rfl,(Z8.o.setCell cO _).setCell cO _⟩
 ·have hb':oV nb db=false:=by
   rcases hb with h|h
   ·rw[ha]at h;cases h
   ·exact h
  rw[ha]at ca;rw[hb']at cb;go_enter func255,ntmps255
  go_wp2_with fail;refine(ca _).mono ?_;rintro e w1 ⟨rfl,hb1⟩;clear ca;have Cz:=Qh (TB.o.keep hb1 af);have lf:=Qh (TR.o.keep hb1 af);have Z8:=Qh (bE.o.trans (hb1.mono (by rw[gD.o];omega)));obtain⟨b0,b1,b2,b3⟩:=Cz.o.two;clear hb1;go_wp2_with fail;refine(cb _).mono ?_;rintro e w2 ⟨rfl,hb2⟩;obtain⟨r0,r1,r2,r3⟩:=(lf.o.keep hb2 af).two;have arG:=Qh (aH Z8.o hb2 af);clear hb2 b0 b1 b2 b3;go_wp2_with fail;exact bB (v:=KB) (by simp[results,results255,go_sem,KB,dE,r0,r1]) rfl ⟨rfl,(arG.o.setCell cO _).setCell cO _⟩
theorem div_zero (na da nb db:Int) (ha:En na da) (hb:En nb db) (mF:nb=0) (w:World) :
  Calls prog 255 #[.agg #[.int .i64 na,.int .i64 da],.agg #[.int .i64 nb,.int .i64 db]] w fun e w'=>
   e=.returned zeroV∧Below w.heap.size w w':=by
 have Uo:=Qh ha;have Up:=Qh hb;obtain⟨a1,a2,a3,a4,a5⟩:=ha;obtain⟨b1,b2,b3,b4,b5⟩:=hb;refine abd ?_;intro ra rb ca cb;rw[ra]at ca;rw[rb]at cb;clear a5 b5 ra rb;have nz1:(nb == 0)=true:=(by rw[dZ];exact mF);clear mF;have ix:=VF w #[.int .i64 na,.int .i64 da] #[.int .i64 nb,.int .i64 db] #[.int .i64 0,.int .i64 0] 61 61 61;obtain⟨ta,tb,tr,hsz,bh⟩:=ix;have TA:=Qh ta;clear ta;refine fx tb tr hsz bh ?_;clear tb tr hsz bh;intro TB TR gD bE;go_enter func255,ntmps255
 go_wp2_with fail;refine aQ (ca _) ?_;intro w1 hb1
 clear ca;refine aY (TA.o.keep hb1 af) (TB.o.keep hb1 af) (TR.o.keep hb1 af) ?_;intro N5 Cz lf;have rY:=Qh (bE.o.trans (hb1.mono (by rw[gD.o];omega)));obtain⟨b0,b1,b2,b3⟩:=Cz.o.two;clear hb1;go_wp2_with fail;refine aQ (cb _) ?_;intro w2 hb2
 refine aY (lf.o.keep hb2 af) (Cz.o.keep hb2 af) (aH rY.o hb2 af) ?_;intro pz TB2 rX;obtain⟨f0,f1,f2,f3⟩:=(N5.o.keep hb2 af).two;obtain⟨g0,g1,g2,g3⟩:=TB2.o.two;clear hb2 b0 b1 b2 b3 cb TA TB TR N5 Cz lf rY f2 f3 g2 g3;obtain⟨r0,r1,r2,r3⟩:=pz.o.two;go_wp2_with fail;exact bB (v:=zeroV) (by simp[results,results255,go_sem,zeroV,dE,r0,r1]) rfl ⟨rfl,(rX.o.setCell cO _).setCell cO _⟩
theorem arH (na da nb db:Int) (ha:En na da) (hb:En nb db) (mF:nb≠0) (w:World) :
  Calls prog 255 #[.agg #[.int .i64 na,.int .i64 da],.agg #[.int .i64 nb,.int .i64 db]] w fun e w'=>
   e=.returned (kT (Ao (if nb < 0 then -(na*db) else na*db) (da.natAbs*nb.natAbs)))∧Below w.heap.size w w':=by
 have Uo:=Qh ha;have Up:=Qh hb;obtain⟨a1,a2,a3,a4,a5⟩:=ha;obtain⟨b1,b2,b3,b4,b5⟩:=hb;refine abd ?_;intro ra rb ca cb;rw[ra]at ca;rw[rb]at cb;have csa:=Z3 na ⟨ae,ae⟩;have csb:=Z3 nb ⟨ae,ae⟩;obtain⟨D,rfl⟩:=Iy (show 0≤da by omega);obtain⟨E,rfl⟩:=Iy (show 0≤db by omega);simp only[IG]at *;obtain⟨F,hF⟩:∃ F,F=Ao (if nb < 0 then -(na*(E:Int)) else na*(E:Int)) (D*nb.natAbs):=⟨_,rfl⟩
 rw[← hF];obtain⟨sg,cV⟩:∃ sg,sg=(decide (na < 0) != decide (nb < 0)):=⟨_,rfl⟩
 have hs1:(!(decide (na < 0) == decide (nb < 0)))=sg:=cV.symm;have cP:=arB sg na.natAbs D E nb.natAbs a5 (by rw[Nat.gcd_comm];exact b5) ae ae ae ae ae ae;rw[cV,arF,← hF,← cV]at cP;clear hF cV;have nz1:(nb == 0)=false:=(by rw[gT];exact mF);clear a5 b5 ra rb Uo Up mF;generalize na.natAbs=A at *;generalize nb.natAbs=B at *;have ix:=VF w #[.int .i64 na,.int .i64 D] #[.int .i64 nb,.int .i64 E] #[.int .i64 0,.int .i64 0] 61 61 61;obtain⟨ta,tb,tr,hsz,bh⟩:=ix;have TA:=Qh ta;clear ta;refine fx tb tr hsz bh ?_;clear tb tr hsz bh;intro TB TR gD bE;go_enter func255,ntmps255
 go_wp2_with fail;refine aQ (ca _) ?_;intro w1 hb1
 clear ca;refine aY (TA.o.keep hb1 af) (TB.o.keep hb1 af) (TR.o.keep hb1 af) ?_;intro N5 Cz lf;have rY:=Qh (bE.o.trans (hb1.mono (by rw[gD.o];omega)));obtain⟨b0,b1,b2,b3⟩:=Cz.o.two;clear hb1;go_wp2_with fail;refine aQ (cb _) ?_;intro w2 hb2
 refine aY (lf.o.keep hb2 af) (Cz.o.keep hb2 af) (aH rY.o hb2 af) ?_;intro pz TB2 rX;obtain⟨f0,f1,f2,f3⟩:=(N5.o.keep hb2 af).two;obtain⟨g0,g1,g2,g3⟩:=TB2.o.two;clear hb2 b0 b1 b2 b3 cb TA TB TR N5 Cz lf rY f2 f3 g2 g3;obtain⟨n,d,er,yw⟩:=ahr F;have JK:=Qh yw;rw[yw]at cP;clear yw;go_wp2_with fail;have l0:=fun x:aW w2=>aW.cell f0 x
 have l1:=fun x:aW w2=>aW.cell f1 x
 have l2:=fun x:aW w2=>aW.cell g0 x
 have l3:=fun x:aW w2=>aW.cell g1 x
 refine adm 22 aj aj ?_;refine UW ?_
 repeat (go_big_quiet_step ((first|(go_at_call 272;with_reducible exact aW.same (csa _))|(go_at_call 272;with_reducible exact aW.same (csb _))|(go_at_call 271;with_reducible exact aW.made (cP _)))))
 refine uk ?_;intro x;clear l0 l1 l2 l3 f0 f1 g0 g1;obtain⟨r0,r1,r2,r3⟩:=(aW.blk pz.o x).two;have bT:=Qh (aH rX.o x.below af);generalize x.w=w3 at *;go_wp2_with fail;exact bB (v:=.tuple #[.agg #[.int .i64 n,.int .i64 d],er]) (by simp[results,results255,go_sem,r0,r1]) rfl ⟨by rw[JK.o],(bT.o.setCell cO _).setCell cO _⟩
theorem apP (na da nb db:Int) (h1:In64 na) (h2:In64 da) (h3:In64 nb) (h4:In64 db) (w:World) :
  Calls prog 255 #[.agg #[.int .i64 na,.int .i64 da],.agg #[.int .i64 nb,.int .i64 db]] w fun e w'=>e=.returned (Yn na da nb db)∧Below w.heap.size w w':=by
 unfold Yn;cases ha:oV na da
 ·exact ahs na da nb db h1 h2 h3 h4 (.inl ha) w
 ·cases hb:oV nb db
  ·exact ahs na da nb db h1 h2 h3 h4 (.inr hb) w
  ·have ra:=(La na da h1 h2).1 ha;have rb:=(La nb db h3 h4).1 hb;by_cases h0:nb=0
   ·have:=div_zero na da nb db ra rb h0 w
    simpa [h0]using this
   ·have:=arH na da nb db ra rb h0 w
    simpa [h0]using this
end Go.Proofs.YtfflljgnpfldfaaGreatDoor
