/-
  The plain law of reading a number's text: the program's reader in steps, the reference's cut, and that they agree.
-/
import Derived.Test.YtfflljgnpfldfaaGreatDoorBaseD
import Derived.Lib.ItoaNum
set_option linter.all false
set_option maxHeartbeats 128000000
namespace Go.Proofs.YtfflljgnpfldfaaGreatDoor
def fW (m:Nat):UInt8:=UInt8.ofNat (48+m % 10)
def ik:Nat→Nat→List UInt8
 | 0,_=>[]
 | k+1,n=>fW (n / 10 ^ k)::ik k n
theorem Je (k n:Nat):(ik k n).length=k:=by
 induction k with
 | zero=>rfl
 | succ k ih=>rw[ik,dz,ih]
theorem BV (k n:Nat):ik (k+1) n=ik k (n / 10)++[fW n]:=by
 induction k generalizing n with
 | zero=>simp[ik]
 | succ k ih=>
  rw[ik,ih,ik,uD,e8,e9 (10 ^ k) 10,← Dh]
theorem ald (a b n:Nat):ik (a+b) n=ik a (n / 10 ^ b)++ik b n:=by
 induction b generalizing n with
 | zero=>simp[ik]
 | succ b ih=>
  rw[← kE,BV,ih,BV,Dh,e8,e9 (10 ^ b) 10,o6]
theorem ale (k n m:Nat):ik k (m*10 ^ k+n)=ik k n:=by
 induction k generalizing n m with
 | zero=>rfl
 | succ k ih=>
  rw[ik,ik];have e:m*10 ^ (k+1)+n=m*10*10 ^ k+n:=(by rw[e8,e9 (10 ^ k) 10,lH]);rw[e,ih]
  congr 1
  unfold fW;rw[e9 (m*10) (10 ^ k),Nat.mul_add_div (uH ah),e9 m 10,Nat.mul_add_mod]
theorem alf (u:Nat) (h:10≤u):Lib.decDigits u=Lib.decDigits (u / 10)++[fW u]:=by
 rw[Lib.decDigits,dif_neg ae];rfl
theorem adW (u:Nat) (h:u < 10):Lib.decDigits u=[fW u]:=by
 rw[Lib.decDigits,dif_pos h];unfold fW;rw[qY h]
theorem QU (k u:Nat) (h1:u < 10 ^ (k+1)) (h2:k=0∨10 ^ k≤u):Lib.decDigits u=ik (k+1) u:=by
 induction k generalizing u with
 | zero=>rw[adW u (by simpa using h1),BV];rfl
 | succ k ih=>
  have h3:10 ^ (k+1)≤u:=by
   rcases h2 with h|h
   ·omega
   ·exact h
  have h10:10≤u:=bQ (by rw[e8];exact LH _ (uH ah)) h3;rw[alf u h10,BV,ih (u / 10) ?_ ?_]
  ·rw[e8]at h1;exact Nat.div_lt_of_lt_mul (by rw[e9];exact h1)
  ·right;rw[IC ah,← e8];exact h3
theorem xX (u:Nat):∃ k,Lib.decDigits u=ik (k+1) u∧u < 10 ^ (k+1)∧(k=0∨10 ^ k≤u):=by
 induction u using Nat.strongRecOn with
 | _ u ih=>
  by_cases h:u < 10
  ·exact⟨0,QU 0 u vK (.inl rfl),vK,.inl rfl⟩
  ·obtain⟨k,h1,h2,h3⟩:=ih (u / 10) ae;have h4:u < 10 ^ (k+1+1):=(by rw[e8];exact(Nat.div_lt_iff_lt_mul ah).1 h2);have h5:10 ^ (k+1)≤u:=by
    rcases h3 with rfl|h3
    ·omega
    ·rw[e8];exact(IC ah).1 h3
   exact⟨k+1,QU _ u h4 (.inr h5),h4,.inr h5⟩
theorem alg (u k:Nat) (h:u < 10 ^ k) (hk:0 < k):(Lib.decDigits u).length≤k:=by
 obtain⟨j,h1,h2,h3⟩:=xX u;rw[h1,Je];rcases h3 with rfl|h3
 ·omega
 ·have:=Bx h3 h;have:=(Nat.pow_lt_pow_iff_right (by decide:1 < 10)).1 this;omega
theorem alh (j k u:Nat) (h:u < 10 ^ j):ik (k+j) u=List.replicate k 48++ik j u:=by
 rw[ald,BA h]
 congr 1
 induction k with
 | zero=>rfl
 | succ k ih=>rw[ik,Nat.zero_div,ih,List.replicate_succ];rfl
def fh (neg:Bool) (N:Nat):Int:=if neg then -(N:Int) else N
def ld (neg:Bool) (N D:Nat):Option (Int×Int):=
 if N=0 then some (0,1)
 else if 9223372036854775807 < D∨9223372036854775808 < N∨(N=9223372036854775808∧neg=false) then none
 else some (fh neg N,D)
def ew (neg:Bool) (N D:Nat):Option (Int×Int):=ld neg (N / Nat.gcd N D) (D / Nat.gcd N D)
def Ao (X:Int) (D:Nat):Option (Int×Int):=ew (decide (X < 0)) X.natAbs D
def En (n d:Int):Prop:=1≤d∧d≤9223372036854775807∧-9223372036854775808≤n∧n≤9223372036854775807∧Nat.gcd n.natAbs d.natAbs=1
theorem aht (neg:Bool) (N:Nat):(fh neg N).natAbs=N:=by cases neg<;>simp[fh]
theorem Am (neg:Bool) (N M:Nat):fh neg (N*M)=fh neg N*M:=by
 cases neg<;>simp[fh,Int.neg_mul]
theorem arI (neg:Bool):fh neg 0=0:=by cases neg<;>rfl
theorem Sk (neg:Bool) (N D:Nat) (hD:0 < D) (n d:Int):ew neg N D=some (n,d)↔En n d∧n*D=fh neg N*d:=by
 have hg:0 < Nat.gcd N D:=Iw N hD;obtain⟨n',hn⟩:=zD N D;obtain⟨d',hd⟩:=Nat.gcd_dvd_right N D;have hc:=Nat.coprime_div_gcd_div_gcd hg;unfold ew;generalize hG:Nat.gcd N D=g at *;subst hn hd;rw[Bq _ hg,Bq _ hg]at hc ⊢;have XZ:0 < d':=Nat.pos_of_mul_pos_left hD;unfold ld;by_cases h0:n' = 0
 ·subst h0;simp only[Nat.mul_zero,arI,Int.zero_mul];rw[if_pos trivial];constructor
  ·intro h;simp only[Option.some.injEq,Prod.mk.injEq]at h;obtain⟨rfl,rfl⟩:=h;exact⟨⟨ae,ae,ae,ae,ah⟩,aB⟩
  ·rintro⟨⟨h1,h2,h3,h4,h5⟩,h6⟩;have:n=0:=by
    rcases Int.mul_eq_zero.1 h6 with h|h
    ·exact h
    ·omega
   subst this;simp only[Int.natAbs_zero,Nat.gcd_zero_left]at h5;have:d=1:=ae
   subst this;rfl
 ·rw[if_neg h0];have key:∀ n d:Int,1≤d→Nat.gcd n.natAbs d.natAbs=1→n*(g*d':Nat)=fh neg (g*n')*d→n=fh neg n'∧d=d':=by
   intro n d h1 h5 h6;obtain⟨dk,rfl⟩:=Iy (show 0≤d by omega);have h7:=jA Int.natAbs h6;rw[Int.natAbs_mul,Int.natAbs_mul,aht,IG,IG]at h7;rw[IG]at h5;have h8:n.natAbs*d' = n' * dk:=by
    have:g*(n.natAbs*d')=g*(n' * dk):=by
     rw[← lH g n' dk,← h7];rw[Nat.mul_left_comm]
    exact Nat.eq_of_mul_eq_mul_left hg this
   have e1:dk ∣ d':=Nat.Coprime.dvd_of_dvd_mul_left (m:=n.natAbs) (by rw[Nat.coprime_comm];exact h5) ⟨n',by rw[h8,e9]⟩;have e2:d' ∣ dk:=Nat.Coprime.dvd_of_dvd_mul_left (m:=n') (by rw[Nat.coprime_comm];exact hc) ⟨n.natAbs,by rw[← h8,e9]⟩;have e3:dk=d':=Nat.dvd_antisymm e1 e2;subst e3;have e4:n.natAbs=n':=Nat.eq_of_mul_eq_mul_right XZ h8;refine⟨?_,rfl⟩;have hp:(0:Int) < ((g*dk:Nat):Int):=(by exact_mod_cast hD);have h9:n*(g*dk:Nat)=fh neg n' * (g*dk:Nat):=by
    rw[h6,e9 g n',Am,qw];simp
   exact Int.eq_of_mul_eq_mul_right ae h9
  have self:fh neg n' * (g*d':Nat)=fh neg (g*n')*(d':Int):=by
   rw[e9 g n',Am,qw];simp
  constructor
  ·intro h;split at h
   ·cases h
   ·rename_i hb
    simp only[Option.some.injEq,Prod.mk.injEq]at h;obtain⟨rfl,rfl⟩:=h;refine⟨⟨ae,ae,?_,?_,?_⟩,self⟩
    ·unfold fh;split<;>omega
    ·unfold fh;cases neg
     ·simp at hb;simp only[zC,tj];omega
     ·simp only[kG];omega
    ·rw[aht,IG];exact hc
  ·rintro⟨⟨h1,h2,h3,h4,h5⟩,h6⟩;obtain⟨rfl,rfl⟩:=key n d h1 h5 h6;rw[if_neg];cases neg
   ·simp[fh]at h3 h4 ⊢;omega
   ·simp[fh]at h3 h4 ⊢;omega
theorem Sj (neg KC:Bool) (N D N' D':Nat) (hD:0 < D) (hD':0 < D') (h:fh neg N*D' = fh KC N' * D):ew neg N D=ew KC N' D':=by
 have key:∀ (a b:Option (Int×Int)),(∀ n d,a=some (n,d)↔b=some (n,d))→a=b:=by
  intro a b hab;cases a with
  | none=>
   cases b with
   | none=>rfl
   | some y=>obtain⟨n,d⟩:=y;exact absurd ((hab n d).2 rfl) aB
  | some x=>obtain⟨n,d⟩:=x;exact((hab n d).1 rfl).symm
 refine key _ _ fun n d=>?_
 rw[Sk neg N D hD,Sk KC N' D' hD'];refine and_congr_right fun hr=>?_
 have p1:(D:Int)≠0:=ae;have p2:(D':Int)≠0:=ae;constructor
 ·intro e;have:(n*D')*D=(fh KC N' * d)*D:=by
   calc (n*D')*D=(n*D)*D':=by rw[qw,Int.mul_comm (D':Int),qw]
    _=(fh neg N*D')*d:=by rw[e,qw,Int.mul_comm d,qw]
    _=(fh KC N' * d)*D:=by rw[h,qw,Int.mul_comm (D:Int),qw]
  exact Int.eq_of_mul_eq_mul_right p1 this
 ·intro e;have:(n*D)*D' = (fh neg N*d)*D':=by
   calc (n*D)*D' = (n*D')*D:=by rw[qw,Int.mul_comm (D:Int),qw]
    _=(fh KC N' * D)*d:=by rw[e,qw,Int.mul_comm d,qw]
    _=(fh neg N*d)*D':=by rw[← h,qw,Int.mul_comm (D':Int),qw]
  exact Int.eq_of_mul_eq_mul_right p2 this
theorem arJ (neg:Bool) (N D:Nat) (h:Nat.gcd N D=1):ld neg N D=ew neg N D:=by
 unfold ew;rw[h,Nat.div_one,Nat.div_one]
theorem arK (X:Int):fh (decide (X < 0)) X.natAbs=X:=by
 unfold fh;split<;>rename_i h<;>simp at h<;>omega
theorem arL (neg:Bool) (N D:Nat) (X:Int) (Y:Nat) (hc:Nat.gcd N D=1) (hD:0 < D) (hY:0 < Y) (h:fh neg N*Y=X*D):ld neg N D=Ao X Y:=by
 rw[arJ neg N D hc];unfold Ao;refine Sj _ _ _ _ _ _ hD hY ?_;rw[arK];exact h
theorem arC (neg:Bool) (an ad bn bd:Nat) (ha:Nat.gcd an ad=1) (hb:Nat.gcd bn bd=1) (h1:0 < ad) (h2:0 < bd) (g k:Nat) (hg:g=Nat.gcd bd an) (hk:k=Nat.gcd ad bn) :
  ld neg (an / g*(bn / k)) (ad / k*(bd / g))=Ao (fh neg (an*bn)) (ad*bd):=by
 have hg0:0 < g:=hg ▸ Nat.gcd_pos_of_pos_left _ h2
 have hk0:0 < k:=hk ▸ Nat.gcd_pos_of_pos_left _ h1
 have c1:Nat.gcd (bd / g) (an / g)=1:=by
  have:=Nat.coprime_div_gcd_div_gcd (m:=bd) (n:=an) (hg ▸ hg0);rw[← hg]at this;exact this
 have c2:Nat.gcd (ad / k) (bn / k)=1:=by
  have:=Nat.coprime_div_gcd_div_gcd (m:=ad) (n:=bn) (hk ▸ hk0);rw[← hk]at this;exact this
 obtain⟨x,hx⟩:g ∣ bd:=hg ▸ zD _ _
 obtain⟨y,hy⟩:g ∣ an:=hg ▸ Nat.gcd_dvd_right _ _
 obtain⟨u,hu⟩:k ∣ ad:=hk ▸ zD _ _
 obtain⟨v,hv⟩:k ∣ bn:=hk ▸ Nat.gcd_dvd_right _ _
 rw[show bd / g=x by rw[hx,Bq _ hg0],show an / g=y by rw[hy,Bq _ hg0]]at c1 ⊢;rw[show ad / k=u by rw[hu,Bq _ hk0],show bn / k=v by rw[hv,Bq _ hk0]]at c2 ⊢;have x0:0 < x:=Nat.pos_of_ne_zero fun h=>by subst h;simp at hx;omega
 have u0:0 < u:=Nat.pos_of_ne_zero fun h=>by subst h;simp at hu;omega
 have c3:Nat.gcd y u=1:=Nat.Coprime.coprime_dvd_left ⟨g,by rw[hy,e9]⟩ (Nat.Coprime.coprime_dvd_right ⟨k,by rw[hu,e9]⟩ ha);have c4:Nat.gcd v x=1:=Nat.Coprime.coprime_dvd_left ⟨k,by rw[hv,e9]⟩ (Nat.Coprime.coprime_dvd_right ⟨g,by rw[hx,e9]⟩ hb);refine arL _ _ _ _ _ ?_ (Nat.mul_pos u0 x0) (Nat.mul_pos h1 h2) ?_
 ·refine Nat.Coprime.mul_left (Nat.Coprime.mul_right c3 ?_) (Nat.Coprime.mul_right ?_ c4)
  ·rw[Nat.coprime_comm];exact c1
  ·rw[Nat.coprime_comm];exact c2
 ·rw[← Am,← Am,hy,hv,hu,hx]
  congr 1
  simp only[e9,Nat.mul_left_comm]
section
variable (B y1 y0 u u1:Nat)
end
def fq (c:UInt8):Bool:=48≤c.toNat && c.toNat≤57
def pB (n:Nat) (l:List UInt8):Nat:=l.foldl (fun n c=>10*n+(c.toNat - 48)) n
def cX (l:List UInt8):Nat:=pB 0 l
def px (l:List UInt8):Prop:=∀ c∈l,fq c=true
theorem nj (c:UInt8):fq c=true↔48≤c.toNat∧c.toNat≤57:=by unfold fq;simp
theorem apw (n:Nat) (l:List UInt8):pB n l=n*10 ^ l.length+cX l:=by
 induction l generalizing n with
 | nil=>simp[pB,cX]
 | cons c l ih=>
  have e1:pB n (c::l)=pB (10*n+(c.toNat - 48)) l:=rfl;have e2:cX (c::l)=pB (10*0+(c.toNat - 48)) l:=rfl;rw[e1,e2,ih,ih (10*0+_),dz,e8,th,th,e9 10 n,lH n 10,e9 10 (10 ^ l.length)];omega
theorem agh (a b:List UInt8):cX (a++b)=cX a*10 ^ b.length+cX b:=by
 have:cX (a++b)=pB (cX a) b:=by unfold cX pB;rw[List.foldl_append]
 rw[this,apw]
theorem XW (a:List UInt8) (c:UInt8):cX (a++[c])=10*cX a+(c.toNat - 48):=by
 rw[agh];simp[cX,pB];omega
theorem JZ (c:UInt8) (l:List UInt8):cX (c::l)=(c.toNat - 48)*10 ^ l.length+cX l:=by
 have:=agh [c] l
 simpa [cX,pB]using this
theorem Nr {l:List UInt8} (h:px l):cX l < 10 ^ l.length:=by
 induction l with
 | nil=>simp[cX,pB]
 | cons c l ih=>
  have h1:=(nj c).1 (h c aB);have h2:=ih (fun x hx=>h x xp);rw[JZ,dz,e8];have h3:(c.toNat - 48)*10 ^ l.length≤9*10 ^ l.length:=vL _ ae;omega
theorem X8 {m:Nat} (h:m < 10):(fW m).toNat=48+m:=by
 unfold fW;rw[qY h];simp;omega
theorem apx (m:Nat):fq (fW m)=true:=by
 rw[nj];unfold fW;have:=ic m (show 0 < 10 by decide);simp;omega
theorem agi {c:UInt8} (h:fq c=true):fW (c.toNat - 48)=c:=by
 have h1:=(nj c).1 h;unfold fW;rw[qY ae,show 48+(c.toNat - 48)=c.toNat by omega];simp
theorem apy (k u:Nat) (h:u < 10 ^ k):cX (ik k u)=u:=by
 induction k generalizing u with
 | zero=>simp[ik,cX,pB]at *;omega
 | succ k ih=>
  have h1:u / 10 < 10 ^ k:=(by rw[e8]at h;exact Nat.div_lt_of_lt_mul (by rw[e9];exact h));rw[BV,XW,ih _ h1];have h2:(fW u).toNat=48+u % 10:=by
   have e:fW u=fW (u % 10):=(by unfold fW;rw[Nat.mod_mod]);rw[e,X8 (ic _ ah)]
  rw[h2];omega
theorem apz (k u:Nat):px (ik k u):=by
 induction k generalizing u with
 | zero=>intro c hc;cases hc
 | succ k ih=>
  rw[BV];intro c hc;rcases uG.1 hc with h|h
  ·exact ih _ c h
  ·rw[oY.1 h];exact apx _
theorem agj {l:List UInt8} (h:px l):ik l.length (cX l)=l:=by
 induction l with
 | nil=>rfl
 | cons c l ih=>
  have hl:px l:=fun x hx=>h x xp
  have h1:=h c aB;have h2:=Nr hl;have hq:((c.toNat - 48)*10 ^ l.length+cX l) / 10 ^ l.length=c.toNat - 48:=by
   rw[e9,Nat.mul_add_div (uH ah),BA h2,q7]
  rw[dz,ik,JZ,ale,hq,agi h1,ih hl]
theorem agk {c:UInt8} {l:List UInt8} (h:px (c::l)) (hc:c≠48):Lib.decDigits (cX (c::l))=c::l∧10 ^ l.length≤cX (c::l):=by
 have h1:=(nj c).1 (h c aB);have h2:49≤c.toNat:=by
  rcases lI c.toNat 49 with h3|h3
  ·exfalso;apply hc;have:c.toNat=48:=by omega
   have e:c=UInt8.ofNat c.toNat:=aB;rw[e,this];rfl
  ·exact h3
 have hlo:10 ^ l.length≤cX (c::l):=by
  rw[JZ];have:1*10 ^ l.length≤(c.toNat - 48)*10 ^ l.length:=vL _ ae;omega
 refine⟨?_,hlo⟩;have hlt:=Nr h;rw[dz]at hlt;rw[QU l.length _ hlt (.inr hlo)];exact agj h
theorem Nu (u:Nat):px (Lib.decDigits u):=by
 obtain⟨k,h1,_⟩:=xX u;rw[h1];exact apz _ _
theorem Al (u:Nat):cX (Lib.decDigits u)=u:=by
 obtain⟨k,h1,h2,_⟩:=xX u;rw[h1];exact apy _ _ h2
theorem agl {u:Nat} (h:0 < u):∃ c l,Lib.decDigits u=c::l∧c≠48:=by
 obtain⟨k,h1,h2,h3⟩:=xX u;refine⟨_,_,h1,?_⟩;intro h4;have h5:u / 10 ^ k % 10=0:=by
  have h6:=jA UInt8.toNat h4;have h7:=X8 (ic (u / 10 ^ k) (show 0 < 10 by decide));have e:fW (u / 10 ^ k)=fW (u / 10 ^ k % 10):=(by unfold fW;rw[Nat.mod_mod]);rw[e,h7]at h6;have Gz:UInt8.toNat 48=48:=rfl;rw[Gz]at h6;omega
 have h8:u / 10 ^ k < 10:=(by rw[Nat.div_lt_iff_lt_mul (uH ah),e9,← e8];exact h2);have h9:u / 10 ^ k=0:=(by generalize u / 10 ^ k=x at *;omega);rcases h3 with rfl|h3
 ·simp at h9;omega
 ·have:=Nat.div_pos h3 (uH ah);omega
theorem agm (k u:Nat) (hu:0 < u) (h:u < 10 ^ k):(ik k u).dropWhile (fun c=>c == 48)=Lib.decDigits u:=by
 obtain⟨j,h1,h2,h3⟩:=xX u;have hjk:j+1≤k:=by
  rcases h3 with rfl|h3
  ·rcases qu k with h0|h0
   ·subst h0;simp at h;omega
   ·omega
  ·have:=(Nat.pow_lt_pow_iff_right (by decide:1 < 10)).1 (Bx h3 h);omega
 obtain⟨m,rfl⟩:∃ m,k=m+(j+1):=⟨k - (j+1),ae⟩
 rw[alh (j+1) m u h2,← h1];obtain⟨c,l,hc,hn⟩:=agl hu;rw[hc]
 induction m with
 | zero=>rw[List.replicate_zero,mf,Fq,if_neg Iu]
 | succ m ih=>
  rw[List.replicate_succ,uD,Fq,if_pos aB];exact ih (by rw[Nat.pow_add];exact iH h2 (LH _ (uH ah))) ae
theorem apA (l:List UInt8):cX (l.dropWhile (fun c=>c == 48))=cX l:=by
 induction l with
 | nil=>rfl
 | cons c l ih=>
  rw[Fq];split
  ·rename_i h
   have:c=48:=vK
   subst this;rw[ih,JZ];simp
  ·rfl
def nU (neg:Bool) (n:Nat) (e:Int):Option (Int×Int):=ew neg (n*10 ^ e.toNat) (10 ^ (-e).toNat)
theorem tQ (k:Nat):0 < 10 ^ k:=uH ah
theorem afV (neg:Bool) (v z:Nat) (e:Int):nU neg (v*10 ^ z) e=nU neg v (e+z):=by
 unfold nU;refine Sj _ _ _ _ _ _ (tQ _) (tQ _) ?_;rw[Am,Am,Am];simp only[Int.natCast_pow];have key:∀ a b c d:Nat,a+b=c+d→(10:Int) ^ a*10 ^ b=10 ^ c*10 ^ d:=fun a b c d h=>by rw[← Int.pow_add,← Int.pow_add,h]
 have h:=key (z+e.toNat) (-(e+z)).toNat (e+z).toNat (-e).toNat ae;rw[Int.pow_add]at h;simp only[qw]at h ⊢
 congr 1
theorem Yj {neg:Bool} {N D:Nat} (hN:N≠0) (h:9223372036854775807 < D / Nat.gcd N D∨9223372036854775808 < N / Nat.gcd N D):ew neg N D=none:=by
 have h0:N / Nat.gcd N D≠0:=by
  have h1:=Nat.div_mul_cancel (zD N D);exact Ph
 unfold ew ld;rw[if_neg h0,if_pos (by rcases h with h|h<;>simp[h])]
theorem agn (neg:Bool) (N:Nat):ew neg N 1=ld neg N 1:=by unfold ew;simp
theorem afT {neg:Bool} {N:Nat} (h:9223372036854775808 < N):ew neg N 1=none:=Yj ae (.inr vK)
theorem afW {neg:Bool} {v b:Nat} (hv:v % 10≠0) (hb:63≤b):ew neg v (10 ^ b)=none:=by
 have hv0:v≠0:=(by intro h;subst h;simp at hv);refine Yj hv0 (.inl ?_);have hg:0 < Nat.gcd v (10 ^ b):=Iw _ (tQ b);have MV:(10:Nat) ^ b=2 ^ b*5 ^ b:=(by rw[← Nat.mul_pow]);have key:∀ p q:Nat,10 ^ b=p ^ b*q ^ b→1 < p→Nat.Coprime p v→p ^ b≤10 ^ b / Nat.gcd v (10 ^ b):=by
  intro p q e hp hc;rw[IC hg];have h1:Nat.gcd v (10 ^ b) ∣ q ^ b:=by
   have h2:Nat.gcd v (10 ^ b) ∣ p ^ b*q ^ b:=(by rw[← e];exact Nat.gcd_dvd_right _ _);refine Nat.Coprime.dvd_of_dvd_mul_left ?_ h2;have h3:Nat.Coprime (p ^ b) v:=Nat.Coprime.pow_left b hc;exact(Nat.Coprime.coprime_dvd_right (zD v (10 ^ b)) h3).symm
  have h4:0 < q ^ b:=by
   rcases qu (q ^ b)with h0|h0
   ·rw[h0,Nat.mul_zero]at e;have:=tQ b;omega
   ·exact h0
  have h5:=zw (p ^ b) (Nat.le_of_dvd h4 h1);rw[← e]at h5;exact h5
 have hbig:∀ p:Nat,2≤p→9223372036854775807 < p ^ b:=fun p hp=>iH (by decide:9223372036854775807 < 2 ^ 63) (bQ (xr ah hb) (Nat.pow_le_pow_left hp b))
 by_cases h2:v % 2=0
 ·have h5:v % 5≠0:=ae;refine iH (hbig 5 ah) (key 5 2 (by rw[MV,e9]) ah ?_);have h6:v % 5=1∨v % 5=2∨v % 5=3∨v % 5=4:=ae;unfold Nat.Coprime;rw[Nat.gcd_rec];rcases h6 with h|h|h|h<;>rw[h]<;>rfl
 ·refine iH (hbig 2 ah) (key 2 5 MV ah ?_);have h6:v % 2=1:=ae;unfold Nat.Coprime;rw[Nat.gcd_rec,h6];rfl
theorem apB {neg:Bool} {v D:Nat} {x y:Int} (hD:0 < D) (h:ew neg v D=some (x,y)):Ao (x*1) (y.natAbs*10)=ew neg v (D*10):=by
 obtain⟨⟨h1,h2,h3,h4,h5⟩,h6⟩:=(Sk neg v D hD x y).1 h;unfold Ao;refine Sj _ _ _ _ _ _ ae ae ?_;have e1:fh (decide (x*1 < 0)) (x*1).natAbs=x:=by
  rw[Int.mul_one];unfold fh;by_cases hx:x < 0
  ·rw[fy hx,if_pos rfl];omega
  ·rw[dU hx,if_neg ah];omega
 have e2:(y.natAbs:Int)=y:=ae;rw[e1];simp only[Int.natCast_mul,e2];rw[← qw,h6,qw]
theorem apC {neg:Bool} {v D:Nat} {x y:Int} (hD:0 < D) (h:ew neg v D=some (x,y)):En x y:=((Sk neg v D hD x y).1 h).1
theorem apD {neg:Bool} {v j:Nat} (hv:v≠0) (hv2:v≤9223372036854775807) (h:ew neg v (10 ^ j)=none):ew neg v (10 ^ (j+1))=none:=by
 have hg:0 < Nat.gcd v (10 ^ j):=Iw _ (tQ j);have hg2:0 < Nat.gcd v (10 ^ (j+1)):=Iw _ (tQ (j+1));have hle:v / Nat.gcd v (10 ^ j)≤v:=Fz _ _;have h0:v / Nat.gcd v (10 ^ j)≠0:=by
  have h1:=Nat.div_mul_cancel (zD v (10 ^ j));exact Ph
 have apE:9223372036854775807 < 10 ^ j / Nat.gcd v (10 ^ j):=by
  unfold ew ld at h;rw[if_neg h0]at h;split at h
  ·rename_i h1
   rcases h1 with h1|h1|h1
   ·exact h1
   ·omega
   ·omega
  ·cases h
 refine Yj hv (.inl (iH apE ?_));have rE:Nat.gcd v (10 ^ (j+1))≤10*Nat.gcd v (10 ^ j):=by
  rw[← Nat.gcd_mul_left,e8,e9 (10 ^ j) 10];refine Nat.le_of_dvd (Iw _ (Nat.mul_pos ah (tQ j))) ?_;exact Nat.dvd_gcd (Nat.dvd_trans (zD _ _) (Nat.dvd_mul_left _ _)) (Nat.gcd_dvd_right _ _)
 rw[IC hg2];have h1:=Nat.div_mul_le_self (10 ^ j) (Nat.gcd v (10 ^ j));refine bQ (zw _ rE) ?_;rw[e8,Nat.mul_left_comm,e9 (10 ^ j) 10];exact zw _ h1
theorem apF {neg:Bool} {v j:Nat} (hv:v≠0) (hv2:v≤9223372036854775807) (h:ew neg v (10 ^ j)=none) (b:Nat) (hb:j≤b):ew neg v (10 ^ b)=none:=by
 obtain⟨k,rfl⟩:∃ k,b=j+k:=⟨b - j,ae⟩
 induction k with
 | zero=>exact h
 | succ k ih=>exact apD hv hv2 (ih ae)
theorem apu {V two five:Nat} (h2:two=0∨V % 2≠0) (h5:five=0∨V % 5≠0):Nat.gcd V (2 ^ two*5 ^ five)=1:=by
 have c2:Nat.Coprime V (2 ^ two):=by
  rcases h2 with rfl|h
  ·simp
  ·refine Nat.Coprime.pow_right _ ?_;have h6:V % 2=1:=ae;rw[Nat.coprime_comm];unfold Nat.Coprime;rw[Nat.gcd_rec,h6];rfl
 have c5:Nat.Coprime V (5 ^ five):=by
  rcases h5 with rfl|h
  ·simp
  ·refine Nat.Coprime.pow_right _ ?_;have h6:V % 5=1∨V % 5=2∨V % 5=3∨V % 5=4:=ae;rw[Nat.coprime_comm];unfold Nat.Coprime;rw[Nat.gcd_rec];rcases h6 with h|h|h|h<;>rw[h]<;>rfl
 exact Nat.Coprime.mul_right c2 c5
theorem aps {neg:Bool} {V D:Nat} (h:Nat.gcd V D=1):ew neg V D=ld neg V D:=by unfold ew;rw[h,Nat.div_one,Nat.div_one]
theorem apr {neg:Bool} {v V two five back:Nat} (h:v*(2 ^ two*5 ^ five)=V*10 ^ back):ew neg v (10 ^ back)=ew neg V (2 ^ two*5 ^ five):=by
 have hp:0 < 2 ^ two*5 ^ five:=Nat.mul_pos (uH ah) (uH ah);refine Sj _ _ _ _ _ _ (tQ _) hp ?_;rw[← Am,← Am,h]
structure RS where
 pt:Nat
 neg:Bool
 ds:List UInt8
 back:Nat
 pow:Nat
 down:Bool
def eW (c:UInt8):Bool:=c == 43 || c == 45
def ju (c:UInt8):Bool:=c == 101 || c == 69
def Ek (n:Nat) (l:List UInt8):Nat:=l.foldl (fun n c=>min (10*n+(c.toNat - 48)) 1000) n
def sF (l:List UInt8):Nat:=Ek 0 l
def headD:List UInt8→Bool
 | []=>false
 | d::_=>fq d
def lW (x:RS) (c:UInt8) (t:List UInt8):Option RS:=
 if eW c=true then
  if x.pt=0 then (if headD t=true then some { x with neg:=c == 45,pt:=1 } else none)
  else if x.pt=4 then some { x with down:=c == 45,pt:=5 } else none
 else if c=46 then (if x.pt=1 then some { x with pt:=2 } else none)
 else if ju c=true then (if x.pt=1∨x.pt=3 then some { x with pt:=4 } else none)
 else if fq c=true then
  if 4≤x.pt then some { x with pt:=6,pow:=min (10*x.pow+(c.toNat - 48)) 1000 }
  else if x.pt=2∨x.pt=3 then some { x with pt:=3,back:=x.back+1,ds:=x.ds++[c] }
  else some { x with pt:=1,ds:=x.ds++[c] }
 else none
def Sm:RS→List UInt8→Option RS
 | x,[]=>some x
 | x,c::t=>match lW x c t with|none=>none|some y=>Sm y t
def sG (down:Bool) (n:Nat):Int:=if down then -(n:Int) else n
def Bh (x:RS):Option (Bool×List UInt8×Int):=
 if x.pt=1∨x.pt=3∨x.pt=6 then some (x.neg,x.ds,sG x.down x.pow - x.back) else none
def im (x:RS) (l:List UInt8):Option (Bool×List UInt8×Int):=(Sm x l).bind Bh
def nd (s:List UInt8):Option (Bool×List UInt8×Int):=im ⟨0,false,[],0,0,false⟩ s
theorem Nv (x:RS):im x []=Bh x:=rfl
theorem Ap (x:RS) (c:UInt8) (t:List UInt8):im x (c::t)=(lW x c t).bind (fun y=>im y t):=by
 unfold im;rw[show Sm x (c::t)=(match lW x c t with|none=>none|some y=>Sm y t)from rfl];cases lW x c t<;>rfl
def eF (s:List UInt8):Bool×List UInt8:=
 match s with
 | []=>(false,[])
 | c::t=>if eW c=true then (c == 45,t) else (false,c::t)
def tw (l:List UInt8):List UInt8:=l.takeWhile fq
def dw (l:List UInt8):List UInt8:=l.dropWhile fq
def sD (s:List UInt8):Option (Bool×List UInt8×List UInt8):=
 match s with
 | []=>some (false,[],[])
 | c::t=>if ju c=true then (if tw (eF t).2=[] then none else some ((eF t).1,tw (eF t).2,dw (eF t).2)) else some (false,[],c::t)
def qf (s:List UInt8):Option (List UInt8×List UInt8):=
 match s with
 | []=>some ([],[])
 | c::t=>if c=46 then (if tw t=[] then none else some (tw t,dw t)) else some ([],c::t)
def sH (neg:Bool) (ds:List UInt8) (back:Nat) (s:List UInt8):Option (Bool×List UInt8×Int):=
 match sD s with
 | none=>none
 | some (down,p,r)=>if r=[] then some (neg,ds,sG down (sF p) - back) else none
def Ai (s:List UInt8):Option (Bool×Bool×List UInt8×List UInt8×List UInt8):=
 if tw (eF s).2=[] then none else
 match qf (dw (eF s).2)with
 | none=>none
 | some (b,r)=>match sD r with
  | none=>none
  | some (down,p,q)=>if q=[] then some ((eF s).1,down,tw (eF s).2,b,p) else none
theorem apM {c:UInt8} (h:fq c=true):eW c=false∧c≠46∧ju c=false:=by
 obtain⟨h1,h2⟩:=(nj c).1 h;refine⟨?_,?_,?_⟩
 ·unfold eW;rw[Bt,gT,gT];constructor<;>(intro e;subst e;revert h1;decide)
 ·intro e;subst e;revert h1;decide
 ·unfold ju;rw[Bt,gT,gT];constructor<;>(intro e;subst e;revert h2;decide)
theorem agp {c:UInt8} (h:ju c=true):fq c=false∧c≠46∧eW c=false:=by
 unfold ju at h;rw[nJ,dZ,dZ]at h;rcases h with rfl|rfl<;>decide
theorem sx {c:UInt8} {t:List UInt8} (h:fq c=true):tw (c::t)=c::tw t:=by unfold tw;rw[sY,if_pos h]
theorem uw {c:UInt8} {t:List UInt8} (h:fq c=false):tw (c::t)=[]:=by unfold tw;rw[sY,h];rfl
theorem GF {c:UInt8} {t:List UInt8} (h:fq c=true):dw (c::t)=dw t:=by unfold dw;rw[Fq,if_pos h]
theorem Sn {c:UInt8} {t:List UInt8} (h:fq c=false):dw (c::t)=c::t:=by unfold dw;rw[Fq,h];rfl
theorem GG {x:RS} {c:UInt8} {t:List UInt8} (h:fq c=true):lW x c t=(if 4≤x.pt then some { x with pt:=6,pow:=min (10*x.pow+(c.toNat - 48)) 1000 }
  else if x.pt=2∨x.pt=3 then some { x with pt:=3,back:=x.back+1,ds:=x.ds++[c] }
  else some { x with pt:=1,ds:=x.ds++[c] }):=by
 obtain⟨h1,h2,h3⟩:=apM h;unfold lW;rw[h1,if_neg ah,if_neg h2,h3,if_neg ah,if_pos h]
theorem zi {x:RS} {c:UInt8} {t:List UInt8} (h:fq c=false) (hs:eW c=true→x.pt≠0∧x.pt≠4) (hp:c=46→x.pt≠1) (he:ju c=true→x.pt≠1∧x.pt≠3):lW x c t=none:=by
 unfold lW;split
 ·rename_i h1;rw[if_neg (hs h1).1,if_neg (hs h1).2]
 ·split
  ·rename_i h2;rw[if_neg (hp h2)]
  ·split
   ·rename_i h3;rw[if_neg (fun h=>h.elim (he h3).1 (he h3).2)]
   ·rw[h,if_neg ah]
theorem Yl (n:Nat) (c:UInt8) (l:List UInt8):Ek n (c::l)=Ek (min (10*n+(c.toNat - 48)) 1000) l:=by unfold Ek;rw[List.foldl_cons]
theorem r6:∀ (l:List UInt8) (x:RS),x.pt=6→im x l=if dw l=[] then some (x.neg,x.ds,sG x.down (Ek x.pow (tw l)) - x.back) else none:=by
 intro l
 induction l with
 | nil=>intro x h;rw[Nv];unfold Bh;rw[h];rfl
 | cons c t ih=>
  intro x h;rw[Ap];cases hc:fq c
  ·rw[zi hc ae ae ae,Sn hc,if_neg aB];rfl
  ·rw[GG hc,if_pos ae,GF hc,sx hc,Yl,Option.bind_some];rw[ih { x with pt:=6,pow:=min (10*x.pow+(c.toNat - 48)) 1000 } rfl]
theorem r5 (l:List UInt8) (x:RS) (h:x.pt=5∨(x.pt=4∧(eF l).2=l)):im x l=if tw l=[] then none else if dw l=[] then some (x.neg,x.ds,sG x.down (Ek x.pow (tw l)) - x.back) else none:=by
 cases l with
 | nil=>rw[Nv];unfold Bh;rw[if_neg ae];rfl
 | cons c t=>
  rw[Ap];cases hc:fq c
  ·rw[zi hc ?_ ae ae,uw hc,if_pos rfl];rfl;intro hs;rcases h with h|⟨h,h2⟩
   ·omega
   ·unfold eF at h2;simp only[hs,kG]at h2;exact absurd (jA List.length h2) aB
  ·rw[GG hc,if_pos ae,GF hc,sx hc,Yl,if_neg aB,Option.bind_some];rw[r6 t { x with pt:=6,pow:=min (10*x.pow+(c.toNat - 48)) 1000 } rfl]
theorem Gu {c:UInt8} {t:List UInt8} (h:eW c=false):eF (c::t)=(false,c::t):=by unfold eF;simp[h]
theorem JV {c:UInt8} {t:List UInt8} (h:eW c=true):eF (c::t)=(c == 45,t):=by unfold eF;simp[h]
theorem r4 (l:List UInt8) (x:RS) (h:x.pt=4) (hd:x.down=false) (hp:x.pow=0):im x l=if tw (eF l).2=[] then none else if dw (eF l).2=[] then some (x.neg,x.ds,sG (eF l).1 (sF (tw (eF l).2)) - x.back) else none:=by
 cases l with
 | nil=>rw[r5 _ _ (.inr ⟨h,rfl⟩)];rfl
 | cons c t=>
  cases hs:eW c
  ·rw[r5 _ _ (.inr ⟨h,by rw[Gu hs]⟩),Gu hs,hd,hp];rfl
  ·rw[Ap,JV hs];unfold lW;rw[if_pos hs,if_neg ae,if_pos h];show im _ t=_;rw[r5 _ _ (.inl rfl),hp];rfl
theorem agq {neg:Bool} {ds:List UInt8} {back:Nat} {c:UInt8} {t:List UInt8} (h:ju c=false):sH neg ds back (c::t)=none:=by
 unfold sH sD;simp[h]
theorem agr {neg:Bool} {ds:List UInt8} {back:Nat} {c:UInt8} {t:List UInt8} (h:ju c=true):sH neg ds back (c::t)=if tw (eF t).2=[] then none else if dw (eF t).2=[] then some (neg,ds,sG (eF t).1 (sF (tw (eF t).2)) - back) else none:=by
 unfold sH sD;simp only[h,kG];by_cases h1:tw (eF t).2=[]
 ·simp[h1]
 ·simp[h1]
theorem r3:∀ (l:List UInt8) (x:RS),x.pt=3→x.down=false→x.pow=0→im x l=sH x.neg (x.ds++tw l) (x.back+(tw l).length) (dw l):=by
 intro l
 induction l with
 | nil=>
  intro x h hd hp;rw[Nv];unfold Bh;rw[if_pos ae,hd,hp];show _=sH x.neg (x.ds++[]) (x.back+0) [];rw[pT];rfl
 | cons c t ih=>
  intro x h hd hp;rw[Ap];cases hc:fq c
  ·rw[uw hc,Sn hc,pT];cases he:ju c
   ·rw[zi hc ae ae (by rw[he];intro h;cases h),agq he];rfl
   ·obtain⟨_,q2,q3⟩:=agp he;unfold lW;rw[q3,if_neg ah,if_neg q2,if_pos he,if_pos (.inr h),agr he];show im _ t=_;rw[r4 t { x with pt:=4 } rfl hd hp];rfl
  ·rw[GG hc,if_neg ae,if_pos ae,GF hc,sx hc];show im _ t=_;rw[ih { x with pt:=3,back:=x.back+1,ds:=x.ds++[c] } rfl hd hp];show sH _ (x.ds++[c]++tw t) (x.back+1+(tw t).length) _=_;rw[o6,dz,kE,BD 1];rfl
theorem r2 (l:List UInt8) (x:RS) (h:x.pt=2) (hd:x.down=false) (hp:x.pow=0) (hb:x.back=0):im x l=if tw l=[] then none else sH x.neg (x.ds++tw l) (tw l).length (dw l):=by
 cases l with
 | nil=>rw[Nv];unfold Bh;rw[if_neg ae];rfl
 | cons c t=>
  rw[Ap];cases hc:fq c
  ·rw[zi hc ae ae ae,uw hc,if_pos rfl];rfl
  ·rw[GG hc,if_neg ae,if_pos ae,GF hc,sx hc,if_neg aB];show im _ t=_;rw[r3 t { x with pt:=3,back:=x.back+1,ds:=x.ds++[c] } rfl hd hp];show sH _ (x.ds++[c]++tw t) (x.back+1+(tw t).length) _=_;rw[o6,dz,hb,kF,BD 1];rfl
def Co (neg:Bool) (ds:List UInt8) (s:List UInt8):Option (Bool×List UInt8×Int):=
 match qf s with
 | none=>none
 | some (b,r)=>sH neg (ds++b) b.length r
theorem r1:∀ (l:List UInt8) (x:RS),x.pt=1→x.down=false→x.pow=0→x.back=0→im x l=Co x.neg (x.ds++tw l) (dw l):=by
 intro l
 induction l with
 | nil=>
  intro x h hd hp hb;rw[Nv];unfold Bh;rw[if_pos ae,hd,hp,hb];show _=sH x.neg (x.ds++[]++[]) 0 [];rw[pT,pT];rfl
 | cons c t ih=>
  intro x h hd hp hb;rw[Ap];cases hc:fq c
  ·rw[uw hc,Sn hc,pT];by_cases Sp:c=46
   ·subst Sp;have e1:Co x.neg x.ds (46::t)=if tw t=[] then none else sH x.neg (x.ds++tw t) (tw t).length (dw t):=by
     unfold Co qf;simp only[kG];by_cases h1:tw t=[]
     ·simp[h1]
     ·simp[h1]
    rw[e1];unfold lW;rw[if_neg ah,if_pos rfl,if_pos h];show im _ t=_;rw[r2 t { x with pt:=2 } rfl hd hp hb]
   ·have e1:Co x.neg x.ds (c::t)=sH x.neg x.ds 0 (c::t):=by
     unfold Co qf;simp[Sp]
    rw[e1];cases he:ju c
    ·rw[zi hc ae (fun h=>absurd h Sp) (by rw[he];intro h;cases h),agq he];rfl
    ·obtain⟨_,q2,q3⟩:=agp he;unfold lW;rw[q3,if_neg ah,if_neg q2,if_pos he,if_pos (.inl h),agr he];show im _ t=_;rw[r4 t { x with pt:=4 } rfl hd hp];show(if tw (eF t).2=[] then none else if dw (eF t).2=[] then some (x.neg,x.ds,sG (eF t).1 (sF (tw (eF t).2)) - (x.back:Int)) else none)=_;rw[hb]
  ·rw[GG hc,if_neg ae,if_neg ae,GF hc,sx hc];show im _ t=_;rw[ih { x with pt:=1,ds:=x.ds++[c] } rfl hd hp hb];show Co _ (x.ds++[c]++tw t) _=_;rw[o6];rfl
theorem ags (l:List UInt8):headD l=true↔tw l≠[]:=by
 cases l with
 | nil=>simp[headD,tw]
 | cons c t=>
  cases hc:fq c
  ·rw[uw hc];simp[headD,hc]
  ·rw[sx hc];simp[headD,hc]
theorem r0 (l:List UInt8):nd l=if tw (eF l).2=[] then none else Co (eF l).1 (tw (eF l).2) (dw (eF l).2):=by
 unfold nd;cases l with
 | nil=>rfl
 | cons c t=>
  cases hs:eW c
  ·rw[Gu hs];cases hc:fq c
   ·rw[Ap,zi hc (by rw[hs];intro h;cases h) (by intro _;decide) (by intro _;exact⟨ah,ah⟩),if_pos (uw hc)];rfl
   ·rw[Ap,GG hc,if_neg ah,if_neg ah,GF hc,sx hc,if_neg aB];show im _ t=_;rw[r1 _ _ rfl rfl rfl rfl];rfl
  ·rw[JV hs,Ap];unfold lW;rw[if_pos hs,if_pos rfl];by_cases h1:headD t=true
   ·rw[if_pos h1,if_neg ((ags t).1 h1)];show im _ t=_;rw[r1 _ _ rfl rfl rfl rfl];rfl
   ·rw[if_neg h1,if_pos (Decidable.byContradiction fun h=>h1 ((ags t).2 h))];rfl
theorem XV (s:List UInt8):nd s=(Ai s).map (fun p=>(p.1,p.2.2.1++p.2.2.2.1,sG p.2.1 (sF p.2.2.2.2) - (p.2.2.2.1.length:Int))):=by
 rw[r0];unfold Ai;by_cases h:tw (eF s).2=[]
 ·rw[if_pos h,if_pos h];rfl
 ·rw[if_neg h,if_neg h];unfold Co;cases qf (dw (eF s).2)with
  | none=>rfl
  | some br=>
   obtain⟨b,r⟩:=br;simp only;unfold sH;cases sD r with
   | none=>rfl
   | some d=>
    obtain⟨down,p,q⟩:=d;simp only;by_cases hq:q=[]
    ·rw[if_pos hq,if_pos hq];rfl
    ·rw[if_neg hq,if_neg hq];rfl
end Go.Proofs.YtfflljgnpfldfaaGreatDoor
