/-
  The plain law of reading a number's text: the program's reader in steps, the reference's cut, and that they agree.
-/
import Derived.Lib.ItoaNum
set_option maxHeartbeats 128000000
set_option linter.unusedVariables false
namespace Go.Proofs.YtkblpaabknjckaaGreatDoor
def dgt (m:Nat):UInt8:=UInt8.ofNat (48+m % 10)
def padD:Nat→Nat→List UInt8
 | 0,_=>[]
 | k+1,n=>dgt (n / 10 ^ k)::padD k n
theorem padD_len (k n:Nat):(padD k n).length=k:=by
 induction k with
 | zero=>rfl
 | succ k ih=>rw[padD,List.length_cons,ih]
theorem padD_snoc (k n:Nat):padD (k+1) n=padD k (n / 10)++[dgt n]:=by
 induction k generalizing n with
 | zero=>simp[padD]
 | succ k ih=>
  rw[padD,ih,padD,List.cons_append,Nat.pow_succ,Nat.mul_comm (10 ^ k) 10,← Nat.div_div_eq_div_mul]
theorem padD_add (a b n:Nat):padD (a+b) n=padD a (n / 10 ^ b)++padD b n:=by
 induction b generalizing n with
 | zero=>simp[padD]
 | succ b ih=>
  rw[← Nat.add_assoc,padD_snoc,ih,padD_snoc,Nat.div_div_eq_div_mul,Nat.pow_succ,Nat.mul_comm (10 ^ b) 10,List.append_assoc]
theorem padD_mod (k n m:Nat):padD k (m*10 ^ k+n)=padD k n:=by
 induction k generalizing n m with
 | zero=>rfl
 | succ k ih=>
  rw[padD,padD];have e:m*10 ^ (k+1)+n=m*10*10 ^ k+n:=(by rw[Nat.pow_succ,Nat.mul_comm (10 ^ k) 10,Nat.mul_assoc]);rw[e,ih]
  congr 1
  unfold dgt;rw[Nat.mul_comm (m*10) (10 ^ k),Nat.mul_add_div (Nat.pow_pos (by decide)),Nat.mul_comm m 10,Nat.mul_add_mod]
theorem dec_step (u:Nat) (h:10≤u):Lib.decDigits u=Lib.decDigits (u / 10)++[dgt u]:=by
 rw[Lib.decDigits,dif_neg (by omega)];rfl
theorem dec_small (u:Nat) (h:u < 10):Lib.decDigits u=[dgt u]:=by
 rw[Lib.decDigits,dif_pos h];unfold dgt;rw[Nat.mod_eq_of_lt h]
theorem dec_pad (k u:Nat) (h1:u < 10 ^ (k+1)) (h2:k=0∨10 ^ k≤u):Lib.decDigits u=padD (k+1) u:=by
 induction k generalizing u with
 | zero=>rw[dec_small u (by simpa using h1),padD_snoc];rfl
 | succ k ih=>
  have h3:10 ^ (k+1)≤u:=by
   rcases h2 with h|h
   ·omega
   ·exact h
  have h10:10≤u:=Nat.le_trans (by rw[Nat.pow_succ];exact Nat.le_mul_of_pos_left _ (Nat.pow_pos (by decide))) h3;rw[dec_step u h10,padD_snoc,ih (u / 10) ?_ ?_]
  ·rw[Nat.pow_succ]at h1;exact Nat.div_lt_of_lt_mul (by rw[Nat.mul_comm];exact h1)
  ·right;rw[Nat.le_div_iff_mul_le (by decide),← Nat.pow_succ];exact h3
theorem dec_len (u:Nat):∃ k,Lib.decDigits u=padD (k+1) u∧u < 10 ^ (k+1)∧(k=0∨10 ^ k≤u):=by
 induction u using Nat.strongRecOn with
 | _ u ih=>
  by_cases h:u < 10
  ·exact⟨0,dec_pad 0 u (by simpa using h) (.inl rfl),by simpa using h,.inl rfl⟩
  ·obtain⟨k,h1,h2,h3⟩:=ih (u / 10) (by omega);have h4:u < 10 ^ (k+1+1):=(by rw[Nat.pow_succ];exact(Nat.div_lt_iff_lt_mul (by decide)).1 h2);have h5:10 ^ (k+1)≤u:=by
    rcases h3 with rfl|h3
    ·omega
    ·rw[Nat.pow_succ];exact(Nat.le_div_iff_mul_le (by decide)).1 h3
   exact⟨k+1,dec_pad _ u h4 (.inr h5),h4,.inr h5⟩
theorem dec_len_le (u k:Nat) (h:u < 10 ^ k) (hk:0 < k):(Lib.decDigits u).length≤k:=by
 obtain⟨j,h1,h2,h3⟩:=dec_len u;rw[h1,padD_len];rcases h3 with rfl|h3
 ·omega
 ·have:=Nat.lt_of_le_of_lt h3 h;have:=(Nat.pow_lt_pow_iff_right (by decide:1 < 10)).1 this;omega
theorem dec_pos (u:Nat):0 < (Lib.decDigits u).length:=by
 obtain⟨j,h1,_⟩:=dec_len u;rw[h1,padD_len];omega
theorem pad_front (j k u:Nat) (h:u < 10 ^ j):padD (k+j) u=List.replicate k 48++padD j u:=by
 rw[padD_add,Nat.div_eq_of_lt h]
 congr 1
 induction k with
 | zero=>rfl
 | succ k ih=>rw[padD,Nat.zero_div,ih,List.replicate_succ];rfl
def longD:Nat→Nat→Nat→List UInt8
 | 0,_,_=>[]
 | k+1,r,d=>dgt (10*r / d)::longD k (10*r % d) d
theorem longD_len (k r d:Nat):(longD k r d).length=k:=by
 induction k generalizing r with
 | zero=>rfl
 | succ k ih=>rw[longD,List.length_cons,ih]
theorem longD_snoc (k r d:Nat) (hd:0 < d):longD (k+1) r d=longD k r d++[dgt (10*(r*10 ^ k % d) / d)]:=by
 induction k generalizing r with
 | zero=>
  simp only[longD,List.nil_append,Nat.pow_zero,Nat.mul_one,List.cons.injEq,and_true];unfold dgt
  congr 2
  have h:=Nat.div_add_mod r d;have e:10*r / d=10*(r / d)+10*(r % d) / d:=by
   conv=>lhs;rw[← h]
   rw[Nat.mul_add,Nat.mul_left_comm,Nat.mul_add_div hd]
  rw[e,Nat.add_comm,Nat.add_mul_mod_self_left]
 | succ k ih=>
  rw[longD,ih,longD,List.cons_append]
  congr 3
  have:10*r % d*10 ^ k % d=r*10 ^ (k+1) % d:=by
   rw[Nat.mod_mul_mod,Nat.pow_succ,Nat.mul_comm (10 ^ k) 10,← Nat.mul_assoc,Nat.mul_comm 10 r]
  rw[this]
theorem longD_pad (k r d:Nat) (hr:r < d):longD k r d=padD k (r*10 ^ k / d):=by
 have hd:0 < d:=by omega
 induction k generalizing r with
 | zero=>rfl
 | succ k ih=>
  have hq:10*r / d < 10:=(by rw[Nat.div_lt_iff_lt_mul hd];omega);have hm:10*r % d < d:=Nat.mod_lt _ hd;have e:r*10 ^ (k+1) / d=10*r / d*10 ^ k+10*r % d*10 ^ k / d:=by
   have h:=Nat.div_add_mod (10*r) d;have e2:r*10 ^ (k+1)=d*(10*r / d*10 ^ k)+10*r % d*10 ^ k:=by
    rw[Nat.pow_succ,Nat.mul_comm (10 ^ k) 10,← Nat.mul_assoc,Nat.mul_comm r 10]
    conv=>lhs;rw[← h]
    rw[Nat.add_mul,Nat.mul_assoc]
   rw[e2,Nat.mul_add_div hd]
  have hF:10*r % d*10 ^ k / d < 10 ^ k:=by
   rw[Nat.div_lt_iff_lt_mul hd,Nat.mul_comm (10 ^ k)];exact Nat.mul_lt_mul_of_pos_right hm (Nat.pow_pos (by decide))
  rw[longD,ih _ hm,e,padD,padD_mod]
  congr 1
  unfold dgt;rw[Nat.mul_comm _ (10 ^ k),Nat.mul_add_div (Nat.pow_pos (by decide)),Nat.div_eq_of_lt hF];simp
def stripN (p d:Nat):Nat:=if h:1 < p∧0 < d∧d % p=0 then stripN p (d / p) else d
termination_by d
decreasing_by exact Nat.div_lt_self h.2.1 h.1
def cntN (p d:Nat):Nat:=if h:1 < p∧0 < d∧d % p=0 then cntN p (d / p)+1 else 0
termination_by d
decreasing_by exact Nat.div_lt_self h.2.1 h.1
theorem strip_yes {p d:Nat} (hp:1 < p) (hd:0 < d) (h:d % p=0):stripN p d=stripN p (d / p)∧cntN p d=cntN p (d / p)+1:=by
 constructor
 ·conv=>lhs;rw[stripN,dif_pos ⟨hp,hd,h⟩]
 ·conv=>lhs;rw[cntN,dif_pos ⟨hp,hd,h⟩]
theorem strip_no {p d:Nat} (h:d % p≠0):stripN p d=d∧cntN p d=0:=by
 constructor
 ·rw[stripN,dif_neg (fun h2=>h h2.2.2)]
 ·rw[cntN,dif_neg (fun h2=>h h2.2.2)]
theorem strip_spec (p d:Nat) (hp:1 < p) (hd:0 < d):d=p ^ cntN p d*stripN p d∧stripN p d % p≠0∧0 < stripN p d:=by
 induction d using Nat.strongRecOn with
 | _ d ih=>
  by_cases h:d % p=0
  ·obtain⟨e1,e2⟩:=strip_yes hp hd h;have hdv:d / p*p=d:=Nat.div_mul_cancel (Nat.dvd_of_mod_eq_zero h);have hq:0 < d / p:=by
    rcases Nat.eq_zero_or_pos (d / p)with h0|h0
    ·rw[h0]at hdv;omega
    ·exact h0
   obtain⟨h1,h2,h3⟩:=ih (d / p) (Nat.div_lt_self hd hp) hq;rw[e1,e2];refine⟨?_,h2,h3⟩;rw[Nat.pow_succ,Nat.mul_right_comm,← h1,hdv]
  ·obtain⟨e1,e2⟩:=strip_no (d:=d) h;rw[e1,e2];exact⟨by simp,h,hd⟩
theorem cnt_lt (p d B:Nat) (hp:1 < p) (hd:0 < d) (h:d < p ^ B):cntN p d < B:=by
 obtain⟨h1,_,h3⟩:=strip_spec p d hp hd;have h4:p ^ cntN p d≤d:=by
  conv=>rhs;rw[h1]
  exact Nat.le_mul_of_pos_right _ h3
 exact(Nat.pow_lt_pow_iff_right hp).1 (Nat.lt_of_le_of_lt h4 h)
def restN (d:Nat):Nat:=stripN 5 (stripN 2 d)
def placesN (d:Nat):Nat:=max (cntN 2 d) (cntN 5 (stripN 2 d))
theorem ends_iff (d:Nat) (hd:0 < d) (h1:restN d=1) (j:Nat):d ∣ 10 ^ j↔placesN d≤j:=by
 obtain⟨a1,a2,a3⟩:=strip_spec 2 d (by decide) hd;obtain⟨b1,b2,b3⟩:=strip_spec 5 (stripN 2 d) (by decide) a3;unfold restN at h1;rw[h1,Nat.mul_one]at b1;unfold placesN;generalize cntN 5 (stripN 2 d)=b at *;generalize cntN 2 d=a at *;rw[b1]at a1;have e10:(10:Nat) ^ j=2 ^ j*5 ^ j:=(by rw[← Nat.mul_pow]);constructor
 ·intro h;rw[e10]at h;have ha:a≤j:=by
   have h2:2 ^ a ∣ 2 ^ j*5 ^ j:=Nat.dvd_trans ⟨5 ^ b,a1⟩ h;have h3:Nat.Coprime (2 ^ a) (5 ^ j):=Nat.Coprime.pow _ _ (by decide);have h4:=Nat.Coprime.dvd_of_dvd_mul_right h3 h2;exact(Nat.pow_dvd_pow_iff_le_right (by decide)).1 h4
  have hb:b≤j:=by
   have h2:5 ^ b ∣ 2 ^ j*5 ^ j:=Nat.dvd_trans ⟨2 ^ a,by rw[a1,Nat.mul_comm]⟩ h;have h3:Nat.Coprime (5 ^ b) (2 ^ j):=Nat.Coprime.pow _ _ (by decide);have h4:=Nat.Coprime.dvd_of_dvd_mul_left h3 h2;exact(Nat.pow_dvd_pow_iff_le_right (by decide)).1 h4
  exact Nat.max_le.2 ⟨ha,hb⟩
 ·intro h;rw[a1,e10];exact Nat.mul_dvd_mul (Nat.pow_dvd_pow 2 (by omega)) (Nat.pow_dvd_pow 5 (by omega))
theorem rest_zero_iff (n d:Nat) (hd:0 < d) (h1:restN d=1) (hc:Nat.gcd n d=1) (j:Nat):n % d*10 ^ j % d=0↔placesN d≤j:=by
 rw[← ends_iff d hd h1,Nat.mod_mul_mod];have hcop:Nat.Coprime d n:=(by rw[Nat.coprime_comm];exact hc);constructor
 ·intro h;exact Nat.Coprime.dvd_of_dvd_mul_left hcop (Nat.dvd_of_mod_eq_zero h)
 ·intro h;exact Nat.mod_eq_zero_of_dvd (Nat.dvd_trans h ⟨n,Nat.mul_comm _ _⟩)
theorem digit_iff (B y1 y0 u u1 q r:Nat) (h:q*y1+r=u):q*(y1*B+y0)≤u*B+u1↔q*y0≤B*r+u1:=by
 have e1:q*(y1*B+y0)=q*y1*B+q*y0:=(by rw[Nat.mul_add,Nat.mul_assoc]);have e2:u*B+u1=q*y1*B+(B*r+u1):=(by rw[← h,Nat.add_mul,Nat.mul_comm B r,Nat.add_assoc]);rw[e1,e2];omega
theorem div_of_test (N y q:Nat) (hy:0 < y) (h1:N / y≤q) (h2:q*y≤N):q=N / y:=by
 have:q≤N / y:=(Nat.le_div_iff_mul_le hy).2 h2;omega
theorem div_lt_of_not (N y q:Nat) (hy:0 < y) (h2:¬ q*y≤N):N / y < q:=by
 rw[Nat.div_lt_iff_lt_mul hy];omega
def sgn (neg:Bool) (N:Nat):Int:=if neg then -(N:Int) else N
def fitE (neg:Bool) (N D:Nat):Option (Int×Int):=
 if N=0 then some (0,1)
 else if 9223372036854775807 < D∨9223372036854775808 < N∨(N=9223372036854775808∧neg=false) then none
 else some (sgn neg N,D)
def frac (neg:Bool) (N D:Nat):Option (Int×Int):=fitE neg (N / Nat.gcd N D) (D / Nat.gcd N D)
def fracI (X:Int) (D:Nat):Option (Int×Int):=frac (decide (X < 0)) X.natAbs D
def RightP (n d:Int):Prop:=1≤d∧d≤9223372036854775807∧-9223372036854775808≤n∧n≤9223372036854775807∧Nat.gcd n.natAbs d.natAbs=1
theorem sgn_natAbs (neg:Bool) (N:Nat):(sgn neg N).natAbs=N:=by cases neg<;>simp[sgn]
theorem sgn_mul (neg:Bool) (N M:Nat):sgn neg (N*M)=sgn neg N*M:=by
 cases neg<;>simp[sgn,Int.neg_mul]
theorem sgn_zero (neg:Bool):sgn neg 0=0:=by cases neg<;>rfl
theorem frac_iff (neg:Bool) (N D:Nat) (hD:0 < D) (n d:Int):frac neg N D=some (n,d)↔RightP n d∧n*D=sgn neg N*d:=by
 have hg:0 < Nat.gcd N D:=Nat.gcd_pos_of_pos_right N hD;obtain⟨n',hn⟩:=Nat.gcd_dvd_left N D;obtain⟨d',hd⟩:=Nat.gcd_dvd_right N D;have hc:=Nat.coprime_div_gcd_div_gcd hg;unfold frac;generalize hG:Nat.gcd N D=g at *;subst hn hd;rw[Nat.mul_div_cancel_left _ hg,Nat.mul_div_cancel_left _ hg]at hc ⊢;have hd0:0 < d':=Nat.pos_of_mul_pos_left hD;unfold fitE;by_cases h0:n' = 0
 ·subst h0;simp only[Nat.mul_zero,sgn_zero,Int.zero_mul];rw[if_pos trivial];constructor
  ·intro h;simp only[Option.some.injEq,Prod.mk.injEq]at h;obtain⟨rfl,rfl⟩:=h;exact⟨⟨by omega,by omega,by omega,by omega,by decide⟩,by simp⟩
  ·rintro⟨⟨h1,h2,h3,h4,h5⟩,h6⟩;have:n=0:=by
    rcases Int.mul_eq_zero.1 h6 with h|h
    ·exact h
    ·omega
   subst this;simp only[Int.natAbs_zero,Nat.gcd_zero_left]at h5;have:d=1:=by omega
   subst this;rfl
 ·rw[if_neg h0];have key:∀ n d:Int,1≤d→Nat.gcd n.natAbs d.natAbs=1→n*(g*d':Nat)=sgn neg (g*n')*d→n=sgn neg n'∧d=d':=by
   intro n d h1 h5 h6;obtain⟨dk,rfl⟩:=Int.eq_ofNat_of_zero_le (show 0≤d by omega);have h7:=congrArg Int.natAbs h6;rw[Int.natAbs_mul,Int.natAbs_mul,sgn_natAbs,Int.natAbs_natCast,Int.natAbs_natCast]at h7;rw[Int.natAbs_natCast]at h5;have h8:n.natAbs*d' = n' * dk:=by
    have:g*(n.natAbs*d')=g*(n' * dk):=by
     rw[← Nat.mul_assoc g n' dk,← h7];rw[Nat.mul_left_comm]
    exact Nat.eq_of_mul_eq_mul_left hg this
   have e1:dk ∣ d':=Nat.Coprime.dvd_of_dvd_mul_left (m:=n.natAbs) (by rw[Nat.coprime_comm];exact h5) ⟨n',by rw[h8,Nat.mul_comm]⟩;have e2:d' ∣ dk:=Nat.Coprime.dvd_of_dvd_mul_left (m:=n') (by rw[Nat.coprime_comm];exact hc) ⟨n.natAbs,by rw[← h8,Nat.mul_comm]⟩;have e3:dk=d':=Nat.dvd_antisymm e1 e2;subst e3;have e4:n.natAbs=n':=Nat.eq_of_mul_eq_mul_right hd0 h8;refine⟨?_,rfl⟩;have hp:(0:Int) < ((g*dk:Nat):Int):=(by exact_mod_cast hD);have h9:n*(g*dk:Nat)=sgn neg n' * (g*dk:Nat):=by
    rw[h6,Nat.mul_comm g n',sgn_mul,Int.mul_assoc];simp
   exact Int.eq_of_mul_eq_mul_right (by omega) h9
  have self:sgn neg n' * (g*d':Nat)=sgn neg (g*n')*(d':Int):=by
   rw[Nat.mul_comm g n',sgn_mul,Int.mul_assoc];simp
  constructor
  ·intro h;split at h
   ·cases h
   ·rename_i hb
    simp only[Option.some.injEq,Prod.mk.injEq]at h;obtain⟨rfl,rfl⟩:=h;refine⟨⟨by omega,by omega,?_,?_,?_⟩,self⟩
    ·unfold sgn;split<;>omega
    ·unfold sgn;cases neg
     ·simp at hb;simp only[Bool.false_eq_true,if_false];omega
     ·simp only[if_true];omega
    ·rw[sgn_natAbs,Int.natAbs_natCast];exact hc
  ·rintro⟨⟨h1,h2,h3,h4,h5⟩,h6⟩;obtain⟨rfl,rfl⟩:=key n d h1 h5 h6;rw[if_neg];cases neg
   ·simp[sgn]at h3 h4 ⊢;omega
   ·simp[sgn]at h3 h4 ⊢;omega
theorem frac_congr (neg neg':Bool) (N D N' D':Nat) (hD:0 < D) (hD':0 < D') (h:sgn neg N*D' = sgn neg' N' * D):frac neg N D=frac neg' N' D':=by
 have key:∀ (a b:Option (Int×Int)),(∀ n d,a=some (n,d)↔b=some (n,d))→a=b:=by
  intro a b hab;cases a with
  | none=>
   cases b with
   | none=>rfl
   | some y=>obtain⟨n,d⟩:=y;exact absurd ((hab n d).2 rfl) (by simp)
  | some x=>obtain⟨n,d⟩:=x;exact((hab n d).1 rfl).symm
 refine key _ _ fun n d=>?_
 rw[frac_iff neg N D hD,frac_iff neg' N' D' hD'];refine and_congr_right fun hr=>?_
 have p1:(D:Int)≠0:=(by omega);have p2:(D':Int)≠0:=(by omega);constructor
 ·intro e;have:(n*D')*D=(sgn neg' N' * d)*D:=by
   calc (n*D')*D=(n*D)*D':=by rw[Int.mul_assoc,Int.mul_comm (D':Int),Int.mul_assoc]
    _=(sgn neg N*D')*d:=by rw[e,Int.mul_assoc,Int.mul_comm d,Int.mul_assoc]
    _=(sgn neg' N' * d)*D:=by rw[h,Int.mul_assoc,Int.mul_comm (D:Int),Int.mul_assoc]
  exact Int.eq_of_mul_eq_mul_right p1 this
 ·intro e;have:(n*D)*D' = (sgn neg N*d)*D':=by
   calc (n*D)*D' = (n*D')*D:=by rw[Int.mul_assoc,Int.mul_comm (D:Int),Int.mul_assoc]
    _=(sgn neg' N' * D)*d:=by rw[e,Int.mul_assoc,Int.mul_comm d,Int.mul_assoc]
    _=(sgn neg N*d)*D':=by rw[← h,Int.mul_assoc,Int.mul_comm (D':Int),Int.mul_assoc]
  exact Int.eq_of_mul_eq_mul_right p2 this
theorem fitE_frac (neg:Bool) (N D:Nat) (h:Nat.gcd N D=1):fitE neg N D=frac neg N D:=by
 unfold frac;rw[h,Nat.div_one,Nat.div_one]
theorem sgn_of (X:Int):sgn (decide (X < 0)) X.natAbs=X:=by
 unfold sgn;split<;>rename_i h<;>simp at h<;>omega
theorem fit_of (neg:Bool) (N D:Nat) (X:Int) (Y:Nat) (hc:Nat.gcd N D=1) (hD:0 < D) (hY:0 < Y) (h:sgn neg N*Y=X*D):fitE neg N D=fracI X Y:=by
 rw[fitE_frac neg N D hc];unfold fracI;refine frac_congr _ _ _ _ _ _ hD hY ?_;rw[sgn_of];exact h
theorem prod_frac (neg:Bool) (an ad bn bd:Nat) (ha:Nat.gcd an ad=1) (hb:Nat.gcd bn bd=1) (h1:0 < ad) (h2:0 < bd) (g k:Nat) (hg:g=Nat.gcd bd an) (hk:k=Nat.gcd ad bn) :
  fitE neg (an / g*(bn / k)) (ad / k*(bd / g))=fracI (sgn neg (an*bn)) (ad*bd):=by
 have hg0:0 < g:=hg ▸ Nat.gcd_pos_of_pos_left _ h2
 have hk0:0 < k:=hk ▸ Nat.gcd_pos_of_pos_left _ h1
 have c1:Nat.gcd (bd / g) (an / g)=1:=by
  have:=Nat.coprime_div_gcd_div_gcd (m:=bd) (n:=an) (hg ▸ hg0);rw[← hg]at this;exact this
 have c2:Nat.gcd (ad / k) (bn / k)=1:=by
  have:=Nat.coprime_div_gcd_div_gcd (m:=ad) (n:=bn) (hk ▸ hk0);rw[← hk]at this;exact this
 obtain⟨x,hx⟩:g ∣ bd:=hg ▸ Nat.gcd_dvd_left _ _
 obtain⟨y,hy⟩:g ∣ an:=hg ▸ Nat.gcd_dvd_right _ _
 obtain⟨u,hu⟩:k ∣ ad:=hk ▸ Nat.gcd_dvd_left _ _
 obtain⟨v,hv⟩:k ∣ bn:=hk ▸ Nat.gcd_dvd_right _ _
 rw[show bd / g=x by rw[hx,Nat.mul_div_cancel_left _ hg0],show an / g=y by rw[hy,Nat.mul_div_cancel_left _ hg0]]at c1 ⊢;rw[show ad / k=u by rw[hu,Nat.mul_div_cancel_left _ hk0],show bn / k=v by rw[hv,Nat.mul_div_cancel_left _ hk0]]at c2 ⊢;have x0:0 < x:=Nat.pos_of_ne_zero fun h=>by subst h;simp at hx;omega
 have u0:0 < u:=Nat.pos_of_ne_zero fun h=>by subst h;simp at hu;omega
 have c3:Nat.gcd y u=1:=Nat.Coprime.coprime_dvd_left ⟨g,by rw[hy,Nat.mul_comm]⟩ (Nat.Coprime.coprime_dvd_right ⟨k,by rw[hu,Nat.mul_comm]⟩ ha);have c4:Nat.gcd v x=1:=Nat.Coprime.coprime_dvd_left ⟨k,by rw[hv,Nat.mul_comm]⟩ (Nat.Coprime.coprime_dvd_right ⟨g,by rw[hx,Nat.mul_comm]⟩ hb);refine fit_of _ _ _ _ _ ?_ (Nat.mul_pos u0 x0) (Nat.mul_pos h1 h2) ?_
 ·refine Nat.Coprime.mul_left (Nat.Coprime.mul_right c3 ?_) (Nat.Coprime.mul_right ?_ c4)
  ·rw[Nat.coprime_comm];exact c1
  ·rw[Nat.coprime_comm];exact c2
 ·rw[← sgn_mul,← sgn_mul,hy,hv,hu,hx]
  congr 1
  simp only[Nat.mul_comm,Nat.mul_left_comm]
section
variable (B y1 y0 u u1:Nat)
theorem q_lt (hB:0 < B) (hu:u < y1*B+y0) (h1:u1 < B):(u*B+u1) / (y1*B+y0) < B:=by
 rw[Nat.div_lt_iff_lt_mul (by omega)];have:(u+1)*B≤B*(y1*B+y0):=by rw[Nat.mul_comm B];exact Nat.mul_le_mul_right _ hu
 rw[Nat.add_mul]at this;omega
theorem q_start (hy:0 < y1) (hy0:y0 < B) (hyB:B≤2*y1) (h1:u1 < B) (hu:u < y1*B+y0) :
  (u*B+u1) / (y1*B+y0)≤u / y1∧u / y1≤B+1∧u / y1*y1+u % y1=u:=by
 refine⟨?_,?_,by rw[Nat.mul_comm];exact Nat.div_add_mod u y1⟩
 ·rw[Nat.le_div_iff_mul_le hy];have hB:0 < B:=(by omega);have h2:(u*B+u1) / (y1*B+y0)*(y1*B+y0)≤u*B+u1:=Nat.div_mul_le_self _ _;generalize (u*B+u1) / (y1*B+y0)=q at *;have h3:q*y1*B < (u+1)*B:=by
   rw[Nat.mul_add,← Nat.mul_assoc]at h2;rw[Nat.add_mul];omega
  have:=Nat.lt_of_mul_lt_mul_right h3;omega
 ·have:u / y1 < B+2:=by
   rw[Nat.div_lt_iff_lt_mul hy,Nat.add_mul,Nat.mul_comm B];omega
  omega
theorem q_yes {q r:Nat} (hB:0 < B) (hu:u < y1*B+y0) (h1:u1 < B) (hi:q*y1+r=u) (hQ:(u*B+u1) / (y1*B+y0)≤q) (ht:B≤q∨B*r+u1 < q*y0) :
  (u*B+u1) / (y1*B+y0)≤q - 1∧1≤q∧(q - 1)*y1+(r+y1)=u:=by
 have hlt:(u*B+u1) / (y1*B+y0) < q:=by
  rcases ht with h|h
  ·exact Nat.lt_of_lt_of_le (q_lt B y1 y0 u u1 hB hu h1) h
  ·refine div_lt_of_not _ _ _ (by omega) fun hc=>?_
   rw[digit_iff B y1 y0 u u1 q r hi]at hc;omega
 have hq1:1≤q:=Nat.lt_of_le_of_lt (Nat.zero_le _) hlt;refine⟨Nat.le_sub_one_of_lt hlt,hq1,?_⟩;clear hQ ht hlt;obtain⟨p,rfl⟩:∃ p,q=p+1:=⟨q - 1,by omega⟩
 rw[Nat.add_sub_cancel,← hi,Nat.add_mul];omega
theorem q_no {q r:Nat} (hy:0 < y1*B+y0) (hi:q*y1+r=u) (hQ:(u*B+u1) / (y1*B+y0)≤q) (ht:¬ (B*r+u1 < q*y0)):q=(u*B+u1) / (y1*B+y0):=
 div_of_test _ _ _ hy hQ ((digit_iff B y1 y0 u u1 q r hi).2 (by omega))
theorem q_break {q r:Nat} (hy:0 < y1*B+y0) (hi:q*y1+r=u) (hQ:(u*B+u1) / (y1*B+y0)≤q) (hq:q≤B) (hy0:y0 < B) (hr:B≤r):q=(u*B+u1) / (y1*B+y0):=by
 refine q_no B y1 y0 u u1 hy hi hQ ?_;have h1:q*y0≤B*y0:=Nat.mul_le_mul_right _ hq;have h2:B*y0≤B*r:=Nat.mul_le_mul_left _ (by omega);omega
end
def isDg (c:UInt8):Bool:=48≤c.toNat && c.toNat≤57
def valS (n:Nat) (l:List UInt8):Nat:=l.foldl (fun n c=>10*n+(c.toNat - 48)) n
def valL (l:List UInt8):Nat:=valS 0 l
def digL (l:List UInt8):Prop:=∀ c∈l,isDg c=true
theorem isDg_iff (c:UInt8):isDg c=true↔48≤c.toNat∧c.toNat≤57:=by unfold isDg;simp
theorem valS_eq (n:Nat) (l:List UInt8):valS n l=n*10 ^ l.length+valL l:=by
 induction l generalizing n with
 | nil=>simp[valS,valL]
 | cons c l ih=>
  have e1:valS n (c::l)=valS (10*n+(c.toNat - 48)) l:=rfl;have e2:valL (c::l)=valS (10*0+(c.toNat - 48)) l:=rfl;rw[e1,e2,ih,ih (10*0+_),List.length_cons,Nat.pow_succ,Nat.add_mul,Nat.add_mul,Nat.mul_comm 10 n,Nat.mul_assoc n 10,Nat.mul_comm 10 (10 ^ l.length)];omega
theorem valL_app (a b:List UInt8):valL (a++b)=valL a*10 ^ b.length+valL b:=by
 have:valL (a++b)=valS (valL a) b:=by unfold valL valS;rw[List.foldl_append]
 rw[this,valS_eq]
theorem valL_snoc (a:List UInt8) (c:UInt8):valL (a++[c])=10*valL a+(c.toNat - 48):=by
 rw[valL_app];simp[valL,valS];omega
theorem valL_cons (c:UInt8) (l:List UInt8):valL (c::l)=(c.toNat - 48)*10 ^ l.length+valL l:=by
 have:=valL_app [c] l
 simpa [valL,valS]using this
theorem valL_lt {l:List UInt8} (h:digL l):valL l < 10 ^ l.length:=by
 induction l with
 | nil=>simp[valL,valS]
 | cons c l ih=>
  have h1:=(isDg_iff c).1 (h c (by simp));have h2:=ih (fun x hx=>h x (by simp[hx]));rw[valL_cons,List.length_cons,Nat.pow_succ];have h3:(c.toNat - 48)*10 ^ l.length≤9*10 ^ l.length:=Nat.mul_le_mul_right _ (by omega);omega
theorem dgt_toNat {m:Nat} (h:m < 10):(dgt m).toNat=48+m:=by
 unfold dgt;rw[Nat.mod_eq_of_lt h];simp;omega
theorem dgt_isDg (m:Nat):isDg (dgt m)=true:=by
 rw[isDg_iff];unfold dgt;have:=Nat.mod_lt m (show 0 < 10 by decide);simp;omega
theorem dgt_back {c:UInt8} (h:isDg c=true):dgt (c.toNat - 48)=c:=by
 have h1:=(isDg_iff c).1 h;unfold dgt;rw[Nat.mod_eq_of_lt (by omega),show 48+(c.toNat - 48)=c.toNat by omega];simp
theorem valL_pad (k u:Nat) (h:u < 10 ^ k):valL (padD k u)=u:=by
 induction k generalizing u with
 | zero=>simp[padD,valL,valS]at *;omega
 | succ k ih=>
  have h1:u / 10 < 10 ^ k:=(by rw[Nat.pow_succ]at h;exact Nat.div_lt_of_lt_mul (by rw[Nat.mul_comm];exact h));rw[padD_snoc,valL_snoc,ih _ h1];have h2:(dgt u).toNat=48+u % 10:=by
   have e:dgt u=dgt (u % 10):=(by unfold dgt;rw[Nat.mod_mod]);rw[e,dgt_toNat (Nat.mod_lt _ (by decide))]
  rw[h2];omega
theorem digL_pad (k u:Nat):digL (padD k u):=by
 induction k generalizing u with
 | zero=>intro c hc;cases hc
 | succ k ih=>
  rw[padD_snoc];intro c hc;rcases List.mem_append.1 hc with h|h
  ·exact ih _ c h
  ·rw[List.mem_singleton.1 h];exact dgt_isDg _
theorem pad_valL {l:List UInt8} (h:digL l):padD l.length (valL l)=l:=by
 induction l with
 | nil=>rfl
 | cons c l ih=>
  have hl:digL l:=fun x hx=>h x (by simp[hx])
  have h1:=h c (by simp);have h2:=valL_lt hl;have hq:((c.toNat - 48)*10 ^ l.length+valL l) / 10 ^ l.length=c.toNat - 48:=by
   rw[Nat.mul_comm,Nat.mul_add_div (Nat.pow_pos (by decide)),Nat.div_eq_of_lt h2,Nat.add_zero]
  rw[List.length_cons,padD,valL_cons,padD_mod,hq,dgt_back h1,ih hl]
theorem dec_canon {c:UInt8} {l:List UInt8} (h:digL (c::l)) (hc:c≠48):Lib.decDigits (valL (c::l))=c::l∧10 ^ l.length≤valL (c::l):=by
 have h1:=(isDg_iff c).1 (h c (by simp));have h2:49≤c.toNat:=by
  rcases Nat.lt_or_ge c.toNat 49 with h3|h3
  ·exfalso;apply hc;have:c.toNat=48:=by omega
   have e:c=UInt8.ofNat c.toNat:=(by simp);rw[e,this];rfl
  ·exact h3
 have hlo:10 ^ l.length≤valL (c::l):=by
  rw[valL_cons];have:1*10 ^ l.length≤(c.toNat - 48)*10 ^ l.length:=Nat.mul_le_mul_right _ (by omega);omega
 refine⟨?_,hlo⟩;have hlt:=valL_lt h;rw[List.length_cons]at hlt;rw[dec_pad l.length _ hlt (.inr hlo)];exact pad_valL h
theorem dec_digL (u:Nat):digL (Lib.decDigits u):=by
 obtain⟨k,h1,_⟩:=dec_len u;rw[h1];exact digL_pad _ _
theorem dec_valL (u:Nat):valL (Lib.decDigits u)=u:=by
 obtain⟨k,h1,h2,_⟩:=dec_len u;rw[h1];exact valL_pad _ _ h2
theorem dec_head {u:Nat} (h:0 < u):∃ c l,Lib.decDigits u=c::l∧c≠48:=by
 obtain⟨k,h1,h2,h3⟩:=dec_len u;refine⟨_,_,h1,?_⟩;intro h4;have h5:u / 10 ^ k % 10=0:=by
  have h6:=congrArg UInt8.toNat h4;have h7:=dgt_toNat (Nat.mod_lt (u / 10 ^ k) (show 0 < 10 by decide));have e:dgt (u / 10 ^ k)=dgt (u / 10 ^ k % 10):=(by unfold dgt;rw[Nat.mod_mod]);rw[e,h7]at h6;have h48:UInt8.toNat 48=48:=rfl;rw[h48]at h6;omega
 have h8:u / 10 ^ k < 10:=(by rw[Nat.div_lt_iff_lt_mul (Nat.pow_pos (by decide)),Nat.mul_comm,← Nat.pow_succ];exact h2);have h9:u / 10 ^ k=0:=(by generalize u / 10 ^ k=x at *;omega);rcases h3 with rfl|h3
 ·simp at h9;omega
 ·have:=Nat.div_pos h3 (Nat.pow_pos (by decide));omega
theorem drop_pad (k u:Nat) (hu:0 < u) (h:u < 10 ^ k):(padD k u).dropWhile (fun c=>c == 48)=Lib.decDigits u:=by
 obtain⟨j,h1,h2,h3⟩:=dec_len u;have hjk:j+1≤k:=by
  rcases h3 with rfl|h3
  ·rcases Nat.eq_zero_or_pos k with h0|h0
   ·subst h0;simp at h;omega
   ·omega
  ·have:=(Nat.pow_lt_pow_iff_right (by decide:1 < 10)).1 (Nat.lt_of_le_of_lt h3 h);omega
 obtain⟨m,rfl⟩:∃ m,k=m+(j+1):=⟨k - (j+1),by omega⟩
 rw[pad_front (j+1) m u h2,← h1];obtain⟨c,l,hc,hn⟩:=dec_head hu;rw[hc]
 induction m with
 | zero=>rw[List.replicate_zero,List.nil_append,List.dropWhile_cons,if_neg (by simpa using hn)]
 | succ m ih=>
  rw[List.replicate_succ,List.cons_append,List.dropWhile_cons,if_pos (by simp)];exact ih (by rw[Nat.pow_add];exact Nat.lt_of_lt_of_le h2 (Nat.le_mul_of_pos_left _ (Nat.pow_pos (by decide)))) (by omega)
theorem val_drop (l:List UInt8):valL (l.dropWhile (fun c=>c == 48))=valL l:=by
 induction l with
 | nil=>rfl
 | cons c l ih=>
  rw[List.dropWhile_cons];split
  ·rename_i h
   have:c=48:=by simpa using h
   subst this;rw[ih,valL_cons];simp
  ·rfl
def parseF (neg:Bool) (n:Nat) (e:Int):Option (Int×Int):=frac neg (n*10 ^ e.toNat) (10 ^ (-e).toNat)
theorem p10 (k:Nat):0 < 10 ^ k:=Nat.pow_pos (by decide)
theorem parseF_shift (neg:Bool) (v z:Nat) (e:Int):parseF neg (v*10 ^ z) e=parseF neg v (e+z):=by
 unfold parseF;refine frac_congr _ _ _ _ _ _ (p10 _) (p10 _) ?_;rw[sgn_mul,sgn_mul,sgn_mul];simp only[Int.natCast_pow];have key:∀ a b c d:Nat,a+b=c+d→(10:Int) ^ a*10 ^ b=10 ^ c*10 ^ d:=fun a b c d h=>by rw[← Int.pow_add,← Int.pow_add,h]
 have h:=key (z+e.toNat) (-(e+z)).toNat (e+z).toNat (-e).toNat (by omega);rw[Int.pow_add]at h;simp only[Int.mul_assoc]at h ⊢
 congr 1
theorem frac_none {neg:Bool} {N D:Nat} (hN:N≠0) (h:9223372036854775807 < D / Nat.gcd N D∨9223372036854775808 < N / Nat.gcd N D):frac neg N D=none:=by
 have h0:N / Nat.gcd N D≠0:=by
  have h1:=Nat.div_mul_cancel (Nat.gcd_dvd_left N D);intro h2;rw[h2]at h1;simp at h1;omega
 unfold frac fitE;rw[if_neg h0,if_pos (by rcases h with h|h<;>simp[h])]
theorem frac_one (neg:Bool) (N:Nat):frac neg N 1=fitE neg N 1:=by unfold frac;simp
theorem frac_over_num {neg:Bool} {N:Nat} (h:9223372036854775808 < N):frac neg N 1=none:=frac_none (by omega) (.inr (by simpa using h))
theorem frac_over_den {neg:Bool} {v b:Nat} (hv:v % 10≠0) (hb:63≤b):frac neg v (10 ^ b)=none:=by
 have hv0:v≠0:=(by intro h;subst h;simp at hv);refine frac_none hv0 (.inl ?_);have hg:0 < Nat.gcd v (10 ^ b):=Nat.gcd_pos_of_pos_right _ (p10 b);have e10:(10:Nat) ^ b=2 ^ b*5 ^ b:=(by rw[← Nat.mul_pow]);have key:∀ p q:Nat,10 ^ b=p ^ b*q ^ b→1 < p→Nat.Coprime p v→p ^ b≤10 ^ b / Nat.gcd v (10 ^ b):=by
  intro p q e hp hc;rw[Nat.le_div_iff_mul_le hg];have h1:Nat.gcd v (10 ^ b) ∣ q ^ b:=by
   have h2:Nat.gcd v (10 ^ b) ∣ p ^ b*q ^ b:=(by rw[← e];exact Nat.gcd_dvd_right _ _);refine Nat.Coprime.dvd_of_dvd_mul_left ?_ h2;have h3:Nat.Coprime (p ^ b) v:=Nat.Coprime.pow_left b hc;exact(Nat.Coprime.coprime_dvd_right (Nat.gcd_dvd_left v (10 ^ b)) h3).symm
  have h4:0 < q ^ b:=by
   rcases Nat.eq_zero_or_pos (q ^ b)with h0|h0
   ·rw[h0,Nat.mul_zero]at e;have:=p10 b;omega
   ·exact h0
  have h5:=Nat.mul_le_mul_left (p ^ b) (Nat.le_of_dvd h4 h1);rw[← e]at h5;exact h5
 have hbig:∀ p:Nat,2≤p→9223372036854775807 < p ^ b:=fun p hp=>Nat.lt_of_lt_of_le (by decide:9223372036854775807 < 2 ^ 63) (Nat.le_trans (Nat.pow_le_pow_right (by decide) hb) (Nat.pow_le_pow_left hp b))
 by_cases h2:v % 2=0
 ·have h5:v % 5≠0:=(by omega);refine Nat.lt_of_lt_of_le (hbig 5 (by decide)) (key 5 2 (by rw[e10,Nat.mul_comm]) (by decide) ?_);have h6:v % 5=1∨v % 5=2∨v % 5=3∨v % 5=4:=(by omega);unfold Nat.Coprime;rw[Nat.gcd_rec];rcases h6 with h|h|h|h<;>rw[h]<;>rfl
 ·refine Nat.lt_of_lt_of_le (hbig 2 (by decide)) (key 2 5 e10 (by decide) ?_);have h6:v % 2=1:=(by omega);unfold Nat.Coprime;rw[Nat.gcd_rec,h6];rfl
theorem frac_step {neg:Bool} {v D:Nat} {x y:Int} (hD:0 < D) (h:frac neg v D=some (x,y)):fracI (x*1) (y.natAbs*10)=frac neg v (D*10):=by
 obtain⟨⟨h1,h2,h3,h4,h5⟩,h6⟩:=(frac_iff neg v D hD x y).1 h;unfold fracI;refine frac_congr _ _ _ _ _ _ (by omega) (by omega) ?_;have e1:sgn (decide (x*1 < 0)) (x*1).natAbs=x:=by
  rw[Int.mul_one];unfold sgn;by_cases hx:x < 0
  ·rw[decide_eq_true hx,if_pos rfl];omega
  ·rw[decide_eq_false hx,if_neg (by decide)];omega
 have e2:(y.natAbs:Int)=y:=(by omega);rw[e1];simp only[Int.natCast_mul,e2];rw[← Int.mul_assoc,h6,Int.mul_assoc]
theorem frac_right {neg:Bool} {v D:Nat} {x y:Int} (hD:0 < D) (h:frac neg v D=some (x,y)):RightP x y:=((frac_iff neg v D hD x y).1 h).1
theorem frac_mono {neg:Bool} {v j:Nat} (hv:v≠0) (hv2:v≤9223372036854775807) (h:frac neg v (10 ^ j)=none):frac neg v (10 ^ (j+1))=none:=by
 have hg:0 < Nat.gcd v (10 ^ j):=Nat.gcd_pos_of_pos_right _ (p10 j);have hg2:0 < Nat.gcd v (10 ^ (j+1)):=Nat.gcd_pos_of_pos_right _ (p10 (j+1));have hle:v / Nat.gcd v (10 ^ j)≤v:=Nat.div_le_self _ _;have h0:v / Nat.gcd v (10 ^ j)≠0:=by
  have h1:=Nat.div_mul_cancel (Nat.gcd_dvd_left v (10 ^ j));intro h2;rw[h2]at h1;simp at h1;omega
 have hden:9223372036854775807 < 10 ^ j / Nat.gcd v (10 ^ j):=by
  unfold frac fitE at h;rw[if_neg h0]at h;split at h
  ·rename_i h1
   rcases h1 with h1|h1|h1
   ·exact h1
   ·omega
   ·omega
  ·cases h
 refine frac_none hv (.inl (Nat.lt_of_lt_of_le hden ?_));have hdv:Nat.gcd v (10 ^ (j+1))≤10*Nat.gcd v (10 ^ j):=by
  rw[← Nat.gcd_mul_left,Nat.pow_succ,Nat.mul_comm (10 ^ j) 10];refine Nat.le_of_dvd (Nat.gcd_pos_of_pos_right _ (Nat.mul_pos (by decide) (p10 j))) ?_;exact Nat.dvd_gcd (Nat.dvd_trans (Nat.gcd_dvd_left _ _) (Nat.dvd_mul_left _ _)) (Nat.gcd_dvd_right _ _)
 rw[Nat.le_div_iff_mul_le hg2];have h1:=Nat.div_mul_le_self (10 ^ j) (Nat.gcd v (10 ^ j));refine Nat.le_trans (Nat.mul_le_mul_left _ hdv) ?_;rw[Nat.pow_succ,Nat.mul_left_comm,Nat.mul_comm (10 ^ j) 10];exact Nat.mul_le_mul_left _ h1
theorem frac_mono_le {neg:Bool} {v j:Nat} (hv:v≠0) (hv2:v≤9223372036854775807) (h:frac neg v (10 ^ j)=none) (b:Nat) (hb:j≤b):frac neg v (10 ^ b)=none:=by
 obtain⟨k,rfl⟩:∃ k,b=j+k:=⟨b - j,by omega⟩
 induction k with
 | zero=>exact h
 | succ k ih=>exact frac_mono hv hv2 (ih (by omega))
theorem cop_end {V two five:Nat} (h2:two=0∨V % 2≠0) (h5:five=0∨V % 5≠0):Nat.gcd V (2 ^ two*5 ^ five)=1:=by
 have c2:Nat.Coprime V (2 ^ two):=by
  rcases h2 with rfl|h
  ·simp
  ·refine Nat.Coprime.pow_right _ ?_;have h6:V % 2=1:=(by omega);rw[Nat.coprime_comm];unfold Nat.Coprime;rw[Nat.gcd_rec,h6];rfl
 have c5:Nat.Coprime V (5 ^ five):=by
  rcases h5 with rfl|h
  ·simp
  ·refine Nat.Coprime.pow_right _ ?_;have h6:V % 5=1∨V % 5=2∨V % 5=3∨V % 5=4:=(by omega);rw[Nat.coprime_comm];unfold Nat.Coprime;rw[Nat.gcd_rec];rcases h6 with h|h|h|h<;>rw[h]<;>rfl
 exact Nat.Coprime.mul_right c2 c5
theorem frac_cop {neg:Bool} {V D:Nat} (h:Nat.gcd V D=1):frac neg V D=fitE neg V D:=by unfold frac;rw[h,Nat.div_one,Nat.div_one]
theorem long_frac {neg:Bool} {v V two five back:Nat} (h:v*(2 ^ two*5 ^ five)=V*10 ^ back):frac neg v (10 ^ back)=frac neg V (2 ^ two*5 ^ five):=by
 have hp:0 < 2 ^ two*5 ^ five:=Nat.mul_pos (Nat.pow_pos (by decide)) (Nat.pow_pos (by decide));refine frac_congr _ _ _ _ _ _ (p10 _) hp ?_;rw[← sgn_mul,← sgn_mul,h]
structure RS where
 pt:Nat
 neg:Bool
 ds:List UInt8
 back:Nat
 pow:Nat
 down:Bool
def isSg (c:UInt8):Bool:=c == 43 || c == 45
def isEe (c:UInt8):Bool:=c == 101 || c == 69
def powS (n:Nat) (l:List UInt8):Nat:=l.foldl (fun n c=>min (10*n+(c.toNat - 48)) 1000) n
def powL (l:List UInt8):Nat:=powS 0 l
def headD:List UInt8→Bool
 | []=>false
 | d::_=>isDg d
def rstep (x:RS) (c:UInt8) (t:List UInt8):Option RS:=
 if isSg c=true then
  if x.pt=0 then (if headD t=true then some { x with neg:=c == 45,pt:=1 } else none)
  else if x.pt=4 then some { x with down:=c == 45,pt:=5 } else none
 else if c=46 then (if x.pt=1 then some { x with pt:=2 } else none)
 else if isEe c=true then (if x.pt=1∨x.pt=3 then some { x with pt:=4 } else none)
 else if isDg c=true then
  if 4≤x.pt then some { x with pt:=6,pow:=min (10*x.pow+(c.toNat - 48)) 1000 }
  else if x.pt=2∨x.pt=3 then some { x with pt:=3,back:=x.back+1,ds:=x.ds++[c] }
  else some { x with pt:=1,ds:=x.ds++[c] }
 else none
def rrun:RS→List UInt8→Option RS
 | x,[]=>some x
 | x,c::t=>match rstep x c t with|none=>none|some y=>rrun y t
def sgP (down:Bool) (n:Nat):Int:=if down then -(n:Int) else n
def rfin (x:RS):Option (Bool×List UInt8×Int):=
 if x.pt=1∨x.pt=3∨x.pt=6 then some (x.neg,x.ds,sgP x.down x.pow - x.back) else none
def rout (x:RS) (l:List UInt8):Option (Bool×List UInt8×Int):=(rrun x l).bind rfin
def readL (s:List UInt8):Option (Bool×List UInt8×Int):=rout ⟨0,false,[],0,0,false⟩ s
theorem rout_nil (x:RS):rout x []=rfin x:=rfl
theorem rout_cons (x:RS) (c:UInt8) (t:List UInt8):rout x (c::t)=(rstep x c t).bind (fun y=>rout y t):=by
 unfold rout;rw[show rrun x (c::t)=(match rstep x c t with|none=>none|some y=>rrun y t)from rfl];cases rstep x c t<;>rfl
def cutS (s:List UInt8):Bool×List UInt8:=
 match s with
 | []=>(false,[])
 | c::t=>if isSg c=true then (c == 45,t) else (false,c::t)
def tw (l:List UInt8):List UInt8:=l.takeWhile isDg
def dw (l:List UInt8):List UInt8:=l.dropWhile isDg
def cutE (s:List UInt8):Option (Bool×List UInt8×List UInt8):=
 match s with
 | []=>some (false,[],[])
 | c::t=>if isEe c=true then (if tw (cutS t).2=[] then none else some ((cutS t).1,tw (cutS t).2,dw (cutS t).2)) else some (false,[],c::t)
def cutP (s:List UInt8):Option (List UInt8×List UInt8):=
 match s with
 | []=>some ([],[])
 | c::t=>if c=46 then (if tw t=[] then none else some (tw t,dw t)) else some ([],c::t)
def outE (neg:Bool) (ds:List UInt8) (back:Nat) (s:List UInt8):Option (Bool×List UInt8×Int):=
 match cutE s with
 | none=>none
 | some (down,p,r)=>if r=[] then some (neg,ds,sgP down (powL p) - back) else none
def cutL (s:List UInt8):Option (Bool×Bool×List UInt8×List UInt8×List UInt8):=
 if tw (cutS s).2=[] then none else
 match cutP (dw (cutS s).2)with
 | none=>none
 | some (b,r)=>match cutE r with
  | none=>none
  | some (down,p,q)=>if q=[] then some ((cutS s).1,down,tw (cutS s).2,b,p) else none
theorem dg_not {c:UInt8} (h:isDg c=true):isSg c=false∧c≠46∧isEe c=false:=by
 obtain⟨h1,h2⟩:=(isDg_iff c).1 h;refine⟨?_,?_,?_⟩
 ·unfold isSg;rw[Bool.or_eq_false_iff,beq_eq_false_iff_ne,beq_eq_false_iff_ne];constructor<;>(intro e;subst e;revert h1;decide)
 ·intro e;subst e;revert h1;decide
 ·unfold isEe;rw[Bool.or_eq_false_iff,beq_eq_false_iff_ne,beq_eq_false_iff_ne];constructor<;>(intro e;subst e;revert h2;decide)
theorem ee_not {c:UInt8} (h:isEe c=true):isDg c=false∧c≠46∧isSg c=false:=by
 unfold isEe at h;rw[Bool.or_eq_true,beq_iff_eq,beq_iff_eq]at h;rcases h with rfl|rfl<;>decide
theorem tw_cons {c:UInt8} {t:List UInt8} (h:isDg c=true):tw (c::t)=c::tw t:=by unfold tw;rw[List.takeWhile_cons,if_pos h]
theorem tw_stop {c:UInt8} {t:List UInt8} (h:isDg c=false):tw (c::t)=[]:=by unfold tw;rw[List.takeWhile_cons,h];rfl
theorem dw_cons {c:UInt8} {t:List UInt8} (h:isDg c=true):dw (c::t)=dw t:=by unfold dw;rw[List.dropWhile_cons,if_pos h]
theorem dw_stop {c:UInt8} {t:List UInt8} (h:isDg c=false):dw (c::t)=c::t:=by unfold dw;rw[List.dropWhile_cons,h];rfl
theorem step_dg {x:RS} {c:UInt8} {t:List UInt8} (h:isDg c=true):rstep x c t=(if 4≤x.pt then some { x with pt:=6,pow:=min (10*x.pow+(c.toNat - 48)) 1000 }
  else if x.pt=2∨x.pt=3 then some { x with pt:=3,back:=x.back+1,ds:=x.ds++[c] }
  else some { x with pt:=1,ds:=x.ds++[c] }):=by
 obtain⟨h1,h2,h3⟩:=dg_not h;unfold rstep;rw[h1,if_neg (by decide),if_neg h2,h3,if_neg (by decide),if_pos h]
theorem step_none {x:RS} {c:UInt8} {t:List UInt8} (h:isDg c=false) (hs:isSg c=true→x.pt≠0∧x.pt≠4) (hp:c=46→x.pt≠1) (he:isEe c=true→x.pt≠1∧x.pt≠3):rstep x c t=none:=by
 unfold rstep;split
 ·rename_i h1;rw[if_neg (hs h1).1,if_neg (hs h1).2]
 ·split
  ·rename_i h2;rw[if_neg (hp h2)]
  ·split
   ·rename_i h3;rw[if_neg (fun h=>h.elim (he h3).1 (he h3).2)]
   ·rw[h,if_neg (by decide)]
theorem powS_cons (n:Nat) (c:UInt8) (l:List UInt8):powS n (c::l)=powS (min (10*n+(c.toNat - 48)) 1000) l:=by unfold powS;rw[List.foldl_cons]
theorem r6:∀ (l:List UInt8) (x:RS),x.pt=6→rout x l=if dw l=[] then some (x.neg,x.ds,sgP x.down (powS x.pow (tw l)) - x.back) else none:=by
 intro l
 induction l with
 | nil=>intro x h;rw[rout_nil];unfold rfin;rw[h];rfl
 | cons c t ih=>
  intro x h;rw[rout_cons];cases hc:isDg c
  ·rw[step_none hc (by omega) (by omega) (by omega),dw_stop hc,if_neg (by simp)];rfl
  ·rw[step_dg hc,if_pos (by omega),dw_cons hc,tw_cons hc,powS_cons,Option.bind_some];rw[ih { x with pt:=6,pow:=min (10*x.pow+(c.toNat - 48)) 1000 } rfl]
theorem r5 (l:List UInt8) (x:RS) (h:x.pt=5∨(x.pt=4∧(cutS l).2=l)):rout x l=if tw l=[] then none else if dw l=[] then some (x.neg,x.ds,sgP x.down (powS x.pow (tw l)) - x.back) else none:=by
 cases l with
 | nil=>rw[rout_nil];unfold rfin;rw[if_neg (by omega)];rfl
 | cons c t=>
  rw[rout_cons];cases hc:isDg c
  ·rw[step_none hc ?_ (by omega) (by omega),tw_stop hc,if_pos rfl];rfl;intro hs;rcases h with h|⟨h,h2⟩
   ·omega
   ·unfold cutS at h2;simp only[hs,if_true]at h2;exact absurd (congrArg List.length h2) (by simp)
  ·rw[step_dg hc,if_pos (by omega),dw_cons hc,tw_cons hc,powS_cons,if_neg (by simp),Option.bind_some];rw[r6 t { x with pt:=6,pow:=min (10*x.pow+(c.toNat - 48)) 1000 } rfl]
theorem cutS_not {c:UInt8} {t:List UInt8} (h:isSg c=false):cutS (c::t)=(false,c::t):=by unfold cutS;simp[h]
theorem cutS_sg {c:UInt8} {t:List UInt8} (h:isSg c=true):cutS (c::t)=(c == 45,t):=by unfold cutS;simp[h]
theorem r4 (l:List UInt8) (x:RS) (h:x.pt=4) (hd:x.down=false) (hp:x.pow=0):rout x l=if tw (cutS l).2=[] then none else if dw (cutS l).2=[] then some (x.neg,x.ds,sgP (cutS l).1 (powL (tw (cutS l).2)) - x.back) else none:=by
 cases l with
 | nil=>rw[r5 _ _ (.inr ⟨h,rfl⟩)];rfl
 | cons c t=>
  cases hs:isSg c
  ·rw[r5 _ _ (.inr ⟨h,by rw[cutS_not hs]⟩),cutS_not hs,hd,hp];rfl
  ·rw[rout_cons,cutS_sg hs];unfold rstep;rw[if_pos hs,if_neg (by omega),if_pos h];show rout _ t=_;rw[r5 _ _ (.inl rfl),hp];rfl
theorem outE_stop {neg:Bool} {ds:List UInt8} {back:Nat} {c:UInt8} {t:List UInt8} (h:isEe c=false):outE neg ds back (c::t)=none:=by
 unfold outE cutE;simp[h]
theorem outE_e {neg:Bool} {ds:List UInt8} {back:Nat} {c:UInt8} {t:List UInt8} (h:isEe c=true):outE neg ds back (c::t)=if tw (cutS t).2=[] then none else if dw (cutS t).2=[] then some (neg,ds,sgP (cutS t).1 (powL (tw (cutS t).2)) - back) else none:=by
 unfold outE cutE;simp only[h,if_true];by_cases h1:tw (cutS t).2=[]
 ·simp[h1]
 ·simp[h1]
theorem r3:∀ (l:List UInt8) (x:RS),x.pt=3→x.down=false→x.pow=0→rout x l=outE x.neg (x.ds++tw l) (x.back+(tw l).length) (dw l):=by
 intro l
 induction l with
 | nil=>
  intro x h hd hp;rw[rout_nil];unfold rfin;rw[if_pos (by omega),hd,hp];show _=outE x.neg (x.ds++[]) (x.back+0) [];rw[List.append_nil];rfl
 | cons c t ih=>
  intro x h hd hp;rw[rout_cons];cases hc:isDg c
  ·rw[tw_stop hc,dw_stop hc,List.append_nil];cases he:isEe c
   ·rw[step_none hc (by omega) (by omega) (by rw[he];intro h;cases h),outE_stop he];rfl
   ·obtain⟨_,q2,q3⟩:=ee_not he;unfold rstep;rw[q3,if_neg (by decide),if_neg q2,if_pos he,if_pos (.inr h),outE_e he];show rout _ t=_;rw[r4 t { x with pt:=4 } rfl hd hp];rfl
  ·rw[step_dg hc,if_neg (by omega),if_pos (by omega),dw_cons hc,tw_cons hc];show rout _ t=_;rw[ih { x with pt:=3,back:=x.back+1,ds:=x.ds++[c] } rfl hd hp];show outE _ (x.ds++[c]++tw t) (x.back+1+(tw t).length) _=_;rw[List.append_assoc,List.length_cons,Nat.add_assoc,Nat.add_comm 1];rfl
theorem r2 (l:List UInt8) (x:RS) (h:x.pt=2) (hd:x.down=false) (hp:x.pow=0) (hb:x.back=0):rout x l=if tw l=[] then none else outE x.neg (x.ds++tw l) (tw l).length (dw l):=by
 cases l with
 | nil=>rw[rout_nil];unfold rfin;rw[if_neg (by omega)];rfl
 | cons c t=>
  rw[rout_cons];cases hc:isDg c
  ·rw[step_none hc (by omega) (by omega) (by omega),tw_stop hc,if_pos rfl];rfl
  ·rw[step_dg hc,if_neg (by omega),if_pos (by omega),dw_cons hc,tw_cons hc,if_neg (by simp)];show rout _ t=_;rw[r3 t { x with pt:=3,back:=x.back+1,ds:=x.ds++[c] } rfl hd hp];show outE _ (x.ds++[c]++tw t) (x.back+1+(tw t).length) _=_;rw[List.append_assoc,List.length_cons,hb,Nat.zero_add,Nat.add_comm 1];rfl
def outP (neg:Bool) (ds:List UInt8) (s:List UInt8):Option (Bool×List UInt8×Int):=
 match cutP s with
 | none=>none
 | some (b,r)=>outE neg (ds++b) b.length r
theorem r1:∀ (l:List UInt8) (x:RS),x.pt=1→x.down=false→x.pow=0→x.back=0→rout x l=outP x.neg (x.ds++tw l) (dw l):=by
 intro l
 induction l with
 | nil=>
  intro x h hd hp hb;rw[rout_nil];unfold rfin;rw[if_pos (by omega),hd,hp,hb];show _=outE x.neg (x.ds++[]++[]) 0 [];rw[List.append_nil,List.append_nil];rfl
 | cons c t ih=>
  intro x h hd hp hb;rw[rout_cons];cases hc:isDg c
  ·rw[tw_stop hc,dw_stop hc,List.append_nil];by_cases hpt:c=46
   ·subst hpt;have e1:outP x.neg x.ds (46::t)=if tw t=[] then none else outE x.neg (x.ds++tw t) (tw t).length (dw t):=by
     unfold outP cutP;simp only[if_true];by_cases h1:tw t=[]
     ·simp[h1]
     ·simp[h1]
    rw[e1];unfold rstep;rw[if_neg (by decide),if_pos rfl,if_pos h];show rout _ t=_;rw[r2 t { x with pt:=2 } rfl hd hp hb]
   ·have e1:outP x.neg x.ds (c::t)=outE x.neg x.ds 0 (c::t):=by
     unfold outP cutP;simp[hpt]
    rw[e1];cases he:isEe c
    ·rw[step_none hc (by omega) (fun h=>absurd h hpt) (by rw[he];intro h;cases h),outE_stop he];rfl
    ·obtain⟨_,q2,q3⟩:=ee_not he;unfold rstep;rw[q3,if_neg (by decide),if_neg q2,if_pos he,if_pos (.inl h),outE_e he];show rout _ t=_;rw[r4 t { x with pt:=4 } rfl hd hp];show(if tw (cutS t).2=[] then none else if dw (cutS t).2=[] then some (x.neg,x.ds,sgP (cutS t).1 (powL (tw (cutS t).2)) - (x.back:Int)) else none)=_;rw[hb]
  ·rw[step_dg hc,if_neg (by omega),if_neg (by omega),dw_cons hc,tw_cons hc];show rout _ t=_;rw[ih { x with pt:=1,ds:=x.ds++[c] } rfl hd hp hb];show outP _ (x.ds++[c]++tw t) _=_;rw[List.append_assoc];rfl
theorem headD_tw (l:List UInt8):headD l=true↔tw l≠[]:=by
 cases l with
 | nil=>simp[headD,tw]
 | cons c t=>
  cases hc:isDg c
  ·rw[tw_stop hc];simp[headD,hc]
  ·rw[tw_cons hc];simp[headD,hc]
theorem r0 (l:List UInt8):readL l=if tw (cutS l).2=[] then none else outP (cutS l).1 (tw (cutS l).2) (dw (cutS l).2):=by
 unfold readL;cases l with
 | nil=>rfl
 | cons c t=>
  cases hs:isSg c
  ·rw[cutS_not hs];cases hc:isDg c
   ·rw[rout_cons,step_none hc (by rw[hs];intro h;cases h) (by intro _;decide) (by intro _;exact⟨by decide,by decide⟩),if_pos (tw_stop hc)];rfl
   ·rw[rout_cons,step_dg hc,if_neg (by decide),if_neg (by decide),dw_cons hc,tw_cons hc,if_neg (by simp)];show rout _ t=_;rw[r1 _ _ rfl rfl rfl rfl];rfl
  ·rw[cutS_sg hs,rout_cons];unfold rstep;rw[if_pos hs,if_pos rfl];by_cases h1:headD t=true
   ·rw[if_pos h1,if_neg ((headD_tw t).1 h1)];show rout _ t=_;rw[r1 _ _ rfl rfl rfl rfl];rfl
   ·rw[if_neg h1,if_pos (Decidable.byContradiction fun h=>h1 ((headD_tw t).2 h))];rfl
theorem read_cut (s:List UInt8):readL s=(cutL s).map (fun p=>(p.1,p.2.2.1++p.2.2.2.1,sgP p.2.1 (powL p.2.2.2.2) - (p.2.2.2.1.length:Int))):=by
 rw[r0];unfold cutL;by_cases h:tw (cutS s).2=[]
 ·rw[if_pos h,if_pos h];rfl
 ·rw[if_neg h,if_neg h];unfold outP;cases cutP (dw (cutS s).2)with
  | none=>rfl
  | some br=>
   obtain⟨b,r⟩:=br;simp only;unfold outE;cases cutE r with
   | none=>rfl
   | some d=>
    obtain⟨down,p,q⟩:=d;simp only;by_cases hq:q=[]
    ·rw[if_pos hq,if_pos hq];rfl
    ·rw[if_neg hq,if_neg hq];rfl
end Go.Proofs.YtkblpaabknjckaaGreatDoor
