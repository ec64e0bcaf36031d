/-
  The reference's natural numbers: contract of times.
-/
import Derived.Test.YtfflljgnpfldfaaGreatDoorParR
import Derived.Test.YtfflljgnpfldfaaGreatDoorRows
import Derived.BigQuiet
import Derived.Deep.CutBlock
import Derived.Deep.DeepCutAuto
import Derived.Test.YtfflljgnpfldfaaGreatDoorCalm
import Derived.StillTailTactics
set_option linter.all false
set_option maxHeartbeats 128000000
set_option maxRecDepth 100000
namespace Go.Proofs.YtfflljgnpfldfaaGreatDoor
def aT (n:Nat):List Nat:=if h:n=0 then [] else n % 4294967296::aT (n / 4294967296)
termination_by n
decreasing_by exact Nat.div_lt_self (Nat.pos_of_ne_zero h) ah
def dT:List Nat→Nat
 | []=>0
 | d::l=>d+4294967296*dT l
def nS (l:List Nat):Prop:=∀ d∈l,d < 4294967296
theorem uU:aT 0=[]:=by unfold aT;rfl
theorem Gs {n:Nat} (h:n≠0):aT n=n % 4294967296::aT (n / 4294967296):=by
 conv=>lhs;unfold aT
 rw[dif_neg h]
theorem afe {n:Nat}:aT n=[]↔n=0:=by
 by_cases h:n=0
 ·subst h;simp[uU]
 ·rw[Gs h];simp[h]
theorem Ec (n:Nat):nS (aT n):=by
 induction n using Nat.strongRecOn with
 | _ n ih=>
  by_cases h:n=0
  ·subst h;rw[uU];intro d hd;cases hd
  ·rw[Gs h];intro d hd;rcases nL.1 hd with rfl|hd
   ·exact ic _ ah
   ·exact ih (n / 4294967296) (Nat.div_lt_self (Nat.pos_of_ne_zero h) ah) d hd
theorem aou (n:Nat):dT (aT n)=n:=by
 induction n using Nat.strongRecOn with
 | _ n ih=>
  by_cases h:n=0
  ·subst h;rw[uU];rfl
  ·rw[Gs h,dT,ih (n / 4294967296) (Nat.div_lt_self (Nat.pos_of_ne_zero h) ah)];exact Nat.mod_add_div _ _
theorem aov (l m:List Nat):dT (l++m)=dT l+4294967296 ^ l.length*dT m:=by
 induction l with
 | nil=>simp[dT]
 | cons d l ih=>rw[uD,dT,ih,dT,dz,e8,q8,← kE,← lH,e9 (4294967296 ^ _) 4294967296]
theorem Xm (l:List Nat) (d:Nat):dT (l++[d])=dT l+4294967296 ^ l.length*d:=by rw[aov];simp[dT]
theorem ae2 {l:List Nat} (h:nS l):dT l < 4294967296 ^ l.length:=by
 induction l with
 | nil=>simp[dT]
 | cons d l ih=>
  have h1:=h d aB;have h2:=ih (fun x hx=>h x xp);rw[dT,dz,e8];omega
theorem ae1 {l:List Nat} {d:Nat} (h:nS l) (hd:d < 4294967296):nS (l++[d]):=fun x hx=>by
 rcases uG.1 hx with hx|hx
 ·exact h x hx
 ·rw[oY.1 hx];exact hd
theorem anP {l:List Nat} (h:nS l) (k:Nat):nS (l.take k):=fun x hx=>h x (IE hx)
theorem Xx {l:List Nat} (h:nS l) (k:Nat) {y:Nat} (hy:y < 4294967296):nS (l.set k y):=fun x hx=>by
 rcases List.mem_or_eq_of_mem_set hx with hx|rfl
 ·exact h x hx
 ·exact hy
theorem canon {l:List Nat} (h:nS l) (hl:∀ x,l.getLast? = some x→x≠0):aT (dT l)=l:=by
 induction l with
 | nil=>exact uU
 | cons d l ih=>
  have h1:=h d aB;have h2:nS l:=fun x hx=>h x xp
  have h3:=ih h2 (fun x hx=>by
   cases l with
   | nil=>simp at hx
   | cons e l=>exact hl x (by rw[List.getLast?_cons_cons];exact hx))
  have h4:dT (d::l)≠0:=by
   intro h0;rw[dT]at h0;have hd:d=0:=ae;have hv:dT l=0:=ae;rw[hv,uU]at h3;subst h3;exact hl d rfl hd
  rw[Gs h4,dT,Nat.add_mul_mod_self_left,qY h1,Nat.add_mul_div_left _ _ ah,BA h1,kF,h3]
theorem Ed (n i:Nat):(aT n)[i]?.getD 0=n / 4294967296 ^ i % 4294967296:=by
 induction i generalizing n with
 | zero=>
  by_cases h:n=0
  ·subst h;simp[uU]
  ·rw[Gs h];simp
 | succ i ih=>
  by_cases h:n=0
  ·subst h;simp[uU]
  ·rw[Gs h,Fo,ih,Dh,e8,e9 4294967296]
theorem nT (n k:Nat):(aT n).length≤k↔n < 4294967296 ^ k:=by
 constructor
 ·intro h;have h1:=ae2 (Ec n);rw[aou]at h1;exact iH h1 (xr ah h)
 ·intro h
  induction k generalizing n with
  | zero=>
   have:n=0:=vK
   subst this;simp[uU]
  | succ k ih=>
   by_cases h0:n=0
   ·subst h0;simp[uU]
   ·rw[Gs h0,dz];refine Nat.succ_le_succ (ih _ ?_);rw[e8]at h;exact Nat.div_lt_of_lt_mul (by rw[e9];exact h)
theorem JM (n k:Nat):n % 4294967296 ^ (k+1)=n % 4294967296 ^ k+4294967296 ^ k*(n / 4294967296 ^ k % 4294967296):=by
 rw[e8,Nat.mod_mul]
theorem anW (a b k v c:Nat) (h:v+c*4294967296 ^ k=a % 4294967296 ^ k+b % 4294967296 ^ k) (n:Nat) (hn:n=a / 4294967296 ^ k % 4294967296+b / 4294967296 ^ k % 4294967296+c) :
  v+4294967296 ^ k*(n % 4294967296)+n / 4294967296*4294967296 ^ (k+1)=a % 4294967296 ^ (k+1)+b % 4294967296 ^ (k+1):=by
 rw[JM,JM,e8];have e1:=Nat.mod_add_div n 4294967296;have e2:4294967296 ^ k*(n % 4294967296)+n / 4294967296*(4294967296 ^ k*4294967296)=4294967296 ^ k*n:=by
  conv=>rhs;rw[← e1]
  rw[q8,Nat.mul_left_comm (n / 4294967296),e9 (n / 4294967296) 4294967296]
 rw[kE,e2,hn,q8,q8,e9 _ c];omega
theorem an0 (a b k v c:Nat) (h:v+b % 4294967296 ^ k=a % 4294967296 ^ k+c*4294967296 ^ k) (hc:c≤1) (n:Nat)
  (hn:n+b / 4294967296 ^ k % 4294967296+c=4294967296+a / 4294967296 ^ k % 4294967296) :
  v+4294967296 ^ k*(n % 4294967296)+b % 4294967296 ^ (k+1)=a % 4294967296 ^ (k+1)+(1 - n / 4294967296)*4294967296 ^ (k+1)∧1 - n / 4294967296≤1∧n / 4294967296≤1:=by
 have h1:=ic (a / 4294967296 ^ k) (show 0 < 4294967296 by decide);have h2:=ic (b / 4294967296 ^ k) (show 0 < 4294967296 by decide);have h3:n / 4294967296≤1:=ae;refine⟨?_,ae,h3⟩;rw[JM,JM,e8];generalize a / 4294967296 ^ k % 4294967296=x at *;generalize b / 4294967296 ^ k % 4294967296=y at *;generalize 4294967296 ^ k=p at *;have e1:=Nat.mod_add_div n 4294967296;have e3:p*n+p*y+p*c=p*4294967296+p*x:=(by rw[← q8,← q8,hn,q8]);have e4:p*n=p*(n % 4294967296)+p*4294967296*(n / 4294967296):=by
  conv=>lhs;rw[← e1]
  rw[q8,lH]
 rw[e9 c p]at h;have h5:n / 4294967296=0∨n / 4294967296=1:=ae;rcases h5 with h5|h5
 ·rw[h5]at e4 ⊢;omega
 ·rw[h5]at e4 ⊢;omega
theorem afm {a k:Nat} (h:(aT a).length≤k):a % 4294967296 ^ k=a:=qY ((nT a k).1 h)
theorem wrapN (a:Nat) (ha:a < 18446744073709551616):IntKind.u64.wrap (a:Int)=(a:Int):=by rw[IntKind.wrap_u64];omega
open Go.Proofs.Tryz
open Go.RowKit
def xk (d:Nat):List Value:=[.int .u32 (d:Int)]
theorem aeV (d:Nat):(xk d).length=1:=rfl
theorem Ru:eO prog 317 36 1 4:=eO.mk' (.int .u32 0) underlying317 aj rfl ah ah
abbrev jL (w:World) (a:Option Addr) (cap:Nat) (l:List Nat):Prop:=bA w xk 1 a cap l
theorem jL.at {w:World} {a:Option Addr} {cap:Nat} {l:List Nat} (h:jL w a cap l) {k:Nat} (hk:k < l.length):∃ b o,a=some ⟨b,o,none⟩∧b < w.heap.size∧w.cell? ⟨b,o+k,none⟩=some (.int .u32 (l[k]:Nat)):=
 bA.cell1 h (fun x=>.int .u32 (x:Nat)) (fun _=>rfl) hk
def lQ (w:World) (v:Value) (n:Nat):Prop:=∃ a cap,v=.slice a (aT n).length cap∧jL w a cap (aT n)
theorem lQ.keep {w w':World} {v:Value} {n:Nat} (h:lQ w v n) (hb:Below w.heap.size w w'):lQ w' v n:=by
 obtain⟨a,cap,e,hs⟩:=h;exact⟨a,cap,e,hs.keep hb af⟩
theorem aeW {w:World} {a:Option Addr} {cap k n:Nat} {l:List Nat} (hs:jL w a cap l) (hk:k≤l.length) (h:l.take k=aT n):lQ w (.slice a k cap) n:=by
 have h1:(aT n).length=k:=(by rw[← h,uC,Fx hk]);refine⟨a,cap,by rw[h1],?_⟩;rw[← h];refine bA.pre (ys:=l.drop k) ?_ aeV;rw[ID];exact hs
def Gm (B:Nat) (v:Value):Prop:=∀ a n c,v=.slice (some a) n c→B≤a.block
theorem Xl {α:Type} {w:World} {base:Nat} {e:TypeId} {size:Nat} {en:α→List Value} {a:Option Addr} {n c:Nat} {xs:List α} (h:aG w base e size en (.slice a n c) xs) (k:Nat):Gm base (.slice a k c):=fun ad n' c' he=>by
 simp only[Value.slice.injEq]at he;obtain⟨rfl,_,_⟩:=he;exact(h.lt ad.block rfl).1
theorem anL {B g o k c:Nat} (h:B≤g):Gm B (.slice (some ⟨g,o,none⟩) k c):=fun ad n' c' he=>by
 simp only[Value.slice.injEq,Option.some.injEq]at he;obtain⟨rfl,_,_⟩:=he;exact h
def z8 (w:World) (n:Nat) (e:Ending) (w':World):Prop:=∃ v,e=.returned v∧lQ w' v n∧Gm w.heap.size v∧Below w.heap.size w w'
def anM (w:World) (a:Option Addr) (cap n:Nat) (e:Ending) (w':World):Prop:=∃ k,e=.returned (.slice a k cap)∧lQ w (.slice a k cap) n∧w' = w
theorem JH (l:List Nat) (hl:nS l) (a:Option Addr) (cap i:Nat) (hi:i < 4611686018427387904) (w:World) (hs:jL w a cap l) :
  Calls prog 234 #[.slice a l.length cap,.int .i64 i] w fun e w'=>e=.returned (.int .u64 (l[i]?.getD 0:Nat))∧w' = w:=by
 have hlen:=hs.len;by_cases h:i < l.length
 ·obtain⟨b,o,rfl,hb,hc⟩:=hs.at h;have hd:=hl l[i] (gU h);have HR:=Qh (show l[i]?.getD 0=l[i]by rw[kC h];rfl);rw[HR.o];have hlt:(i:Int) < l.length:=ae;have h1:(l.length:Int)≤9223372036854775807:=ae;generalize l[i]=x at *;clear HR;go_enter func234,ntmps234
  exact Ib
 ·have HR:=Qh (show l[i]?.getD 0=0 by rw[Fp ae];rfl);rw[HR.o];have hlt:¬ (i:Int) < l.length:=ae;go_enter func234,ntmps234
  exact Ib
def anN (l:List Nat) (k:Nat) (x:Value):Prop:=x=.int .i64 (k:Nat)∧k≤l.length∧dT (l.take k)=dT l
theorem anO {l:List Nat} {k:Nat} (h:dT (l.take (k+1))=dT l) (hk:k < l.length) (h0:l[k]=0):dT (l.take k)=dT l:=by
 rw[← h,Bo hk,Xm,h0];simp
theorem aeX {l:List Nat} (hl:nS l) {k:Nat} (h:dT (l.take k)=dT l) (hk:k≤l.length) (h0:∀ (hlt:0 < k),l[k - 1]' ae≠0):l.take k=aT (dT l):=by
 rw[← h];refine(canon (anP hl k) fun x hx=>?_).symm;rcases qu k with rfl|hp
 ·simp at hx
 ·have:=h0 hp;rw[List.getLast?_eq_getElem?,uC,Fx hk,List.getElem?_take_of_lt ae,kC ae]at hx;simp only[Option.some.injEq]at hx;rw[← hx];exact this
theorem MY (l:List Nat) (hl:nS l) (a:Option Addr) (cap:Nat) (w:World) (hs:jL w a cap l) :
  Calls prog 235 #[.slice a l.length cap] w (anM w a cap (dT l)):=by
 have hlen:=hs.len;go_enter func235,ntmps235
 go_wp2_with fail;go_loop [3] (fun x=>∃ k,anN l k x) (fun x=>(intOf x).toNat)
 case atStart=>exact⟨l.length,rfl,af,by rw[vN]⟩
 case round=>
  obtain⟨k,rfl,hk,hv⟩:=hrel;have HV:=Qh hv;clear hv;rcases qu k with h0|h0
  ·subst h0;have HE:=Qh (aeX hl HV.o hk (fun h=>ae));go_wp2_with fail;go_ret;exact⟨_,rfl,aeW hs hk HE.o,rfl⟩
  ·obtain⟨j,rfl⟩:∃ j,k=j+1:=⟨k - 1,ae⟩
   obtain⟨b,o,rfl,hb,hc⟩:=hs.at (show j < l.length by omega);have hd:=hl l[j] (gU ae);have MX:((j:Int)+1)≤l.length:=ae;have h1:(l.length:Int)≤9223372036854775807:=ae;have ej:((j+1:Nat):Int)=(j:Int)+1:=ae;by_cases hz:l[j]=0
   ·have lR:=Qh (anO HV.o ae hz);have hzb:((l[j]:Nat):Int)=0:=ae;rw[hzb]at hc;clear hd hz hzb;go_wp2_with fail;go_round
    case rel=>exact⟨j,rfl,ae,lR.o⟩
    case measure=>simp[intOf]
   ·have HE:=Qh (aeX hl HV.o hk (fun h=>by simpa using hz));have hzb:(((l[j]:Nat):Int) == 0)=false:=ft;go_wp2_with fail;go_ret;exact⟨_,rfl,aeW hs hk HE.o,rfl⟩
theorem JI (n:Nat) (hn:n < 18446744073709551616) (w:World) :
  Calls prog 206 #[.int .u64 n] w (z8 w n):=by
 have e1:IntKind.u32.wrap (n:Int)=((n % 4294967296:Nat):Int):=PD;have e2:(n:Int) / 4294967296=((n / 4294967296:Nat):Int):=ae;have hl:nS [n % 4294967296,n / 4294967296]:=by
  intro d hd;simp only[nL,Fv,or_false]at hd;rcases hd with rfl|rfl<;>omega
 have hv:dT [n % 4294967296,n / 4294967296]=n:=(by simp only[dT];omega);have p6:n / 4294967296 < 4294967296:=ae;have ct:=fun a cap w' hs=>MY [n % 4294967296,n / 4294967296] hl a cap w' hs
 rw[hv]at ct;clear hl hv;generalize n % 4294967296=d0 at *;generalize n / 4294967296=d1 at *;have i1:(n:Int)≤18446744073709551615:=ae;have i2:(d1:Int)≤4294967295:=ae;have Aa:jL (w.alloc (.cells #[.int .u32 d0,.int .u32 d1] 36)) (some ⟨w.heap.size,0,none⟩) 2 [d0,d1]:=bA.lit w xk 1 aeV [d0,d1] _ _ 2 rfl rfl ah;have HL:=Qh Aa;clear hn p6 Aa;go_enter func206,ntmps206
 go_wp2_with fail;refine(ct _ _ _ HL.o).mono ?_;rintro e w1 ⟨k,rfl,hv,rfl⟩;have HV:=Qh hv;clear hv;go_wp2_with fail;go_ret;exact⟨.slice (some ⟨w.heap.size,0,none⟩) k 2,rfl,HV.o,anL af,(aC w.heap.size w).alloc af _⟩
def Ab (a b:Nat):Int:=if a < b then -1 else if a=b then 0 else 1
theorem anQ {a b k:Nat} (h:a / 4294967296 ^ (k+1)=b / 4294967296 ^ (k+1)) :
  (a / 4294967296 ^ k % 4294967296 < b / 4294967296 ^ k % 4294967296→Ab a b = -1)∧(b / 4294967296 ^ k % 4294967296 < a / 4294967296 ^ k % 4294967296→Ab a b=1) ∧
  (a / 4294967296 ^ k % 4294967296=b / 4294967296 ^ k % 4294967296→a / 4294967296 ^ k=b / 4294967296 ^ k):=by
 have ea:a / 4294967296 ^ (k+1)=a / 4294967296 ^ k / 4294967296:=(by rw[e8,← Dh]);have eb:b / 4294967296 ^ (k+1)=b / 4294967296 ^ k / 4294967296:=(by rw[e8,← Dh]);rw[ea,eb]at h;have key:∀ x y:Nat,x / 4294967296 ^ k < y / 4294967296 ^ k→x < y:=fun x y hxy=>by
  rcases lI x y with h1|h1
  ·exact h1
  ·exact absurd (Nat.div_le_div_right (c:=4294967296 ^ k) h1) (Nat.not_le_of_lt hxy)
 have k1:=key a b;have k2:=key b a;clear ea eb key;generalize a / 4294967296 ^ k=A at *;generalize b / 4294967296 ^ k=B at *;refine⟨fun hlt=>?_,fun hlt=>?_,fun he=>ae⟩
 ·have:=k1 ae;unfold Ab;rw[if_pos this]
 ·have:=k2 ae;unfold Ab;rw[if_neg ae,if_neg ae]
def anR (a b:Nat) (k:Nat) (x:Value):Prop:=∃ j:Nat,x=.int .i64 ((j:Int) - 1)∧j≤k∧a / 4294967296 ^ j=b / 4294967296 ^ j
theorem aeY {a k:Nat} (h:(aT a).length≤k):a / 4294967296 ^ k=0:=BA ((nT a k).1 h)
theorem anS (m n:Nat) (a b:Option Addr) (ca cb:Nat) (hm:(aT m).length≤1000000) (hn:(aT n).length≤1000000) (w:World) (hs:jL w a ca (aT m)) (ht:jL w b cb (aT n)) :
  Calls prog 260 #[.slice a (aT m).length ca,.slice b (aT n).length cb] w fun e w'=>e=.returned (.int .i64 (Ab m n))∧w' = w:=by
 have cd:=fun i hi=>JH (aT m) (Ec m) a ca i hi w hs
 have ce:=fun i hi=>JH (aT n) (Ec n) b cb i hi w ht
 simp only[Ed]at cd ce;obtain⟨K,hK⟩:∃ K:Nat,K=max (aT m).length (aT n).length:=⟨_,rfl⟩
 have hK1:(aT m).length≤K:=ae;have hK2:(aT n).length≤K:=ae;refine aY (aeY hK1) (aeY hK2) hK ?_;intro HM HN Ee;have hK3:K≤1000000:=ae;clear hK hK1 hK2;obtain⟨r,hr⟩:∃ r,r=Ab m n:=⟨_,rfl⟩
 rw[← hr];have HR:=Qh hr;clear hr;generalize (aT m).length=lm at *;generalize (aT n).length=ln at *;go_enter func260,ntmps260
 go_upto_region 1 with fail
 go_cut [5] (fun x wc=>x=.int .i64 ((K:Int) - 1)∧wc=w)
 case first=>
  by_cases hlt:(lm:Int) < ln
  ·have HE:=Qh (show(ln:Int) - 1=(K:Int) - 1 by have:=Ee.o;omega);go_wp2_with fail;go_meet
   case rel=>exact⟨by rw[HE.o],rfl⟩
  ·have HE:=Qh (show(lm:Int) - 1=(K:Int) - 1 by have:=Ee.o;omega);go_wp2_with fail;go_meet
   case rel=>exact⟨by rw[HE.o],rfl⟩
 case rest=>
  obtain⟨rfl,rfl⟩:=hcut;go_wp2_with fail;go_loop [5] (fun x=>anR m n K x) (fun x=>(intOf x+1).toNat)
  case atStart=>exact⟨K,rfl,af,by rw[HM.o,HN.o]⟩
  case round=>
   obtain⟨j,rfl,hj,he⟩:=hrel;have HE:=Qh he;clear he;rcases qu j with h0|h0
   ·subst h0;have HZ:=Qh (show r=0 by have h:=HE.o;simp at h;rw[HR.o,h];unfold Ab;rw[if_neg (Dn _),if_pos rfl]);go_wp2_with fail;go_ret;exact⟨by rw[HZ.o];rfl,rfl⟩
   ·obtain⟨i,rfl⟩:∃ i,j=i+1:=⟨j - 1,ae⟩
    obtain⟨s1,s2,s3⟩:=anQ HE.o;refine aY s1 s2 s3 ?_;intro S1 S2 S3;have c1:=cd i ae;have c2:=ce i ae;have e1:((i+1:Nat):Int) - 1=(i:Int):=ae;rw[e1];have x1:=ic (m / 4294967296 ^ i) (show 0 < 4294967296 by decide);have x2:=ic (n / 4294967296 ^ i) (show 0 < 4294967296 by decide);clear s1 s2 s3 cd ce e1;generalize m / 4294967296 ^ i % 4294967296=x at *;generalize n / 4294967296 ^ i % 4294967296=y at *;rcases Nat.lt_trichotomy x y with h|h|h
    ·have HZ:=Qh (show r = -1 by rw[HR.o];exact S1.o h);have k1:(x:Int) < y:=ae;exact ab2 c1 c2
    ·have S4:=Qh (S3.o h);clear S1 S2 S3;subst h;have k1:¬ (x:Int) < x:=ae;go_wp2_with fail;refine aI c1 ?_;rintro e w1 ⟨rfl,rfl⟩;go_wp2_with fail;refine aI c2 ?_;rintro e w1 ⟨rfl,rfl⟩;go_wp2_with fail;go_round
     case rel=>exact⟨i,rfl,ae,S4.o⟩
     case measure=>simp[intOf]
    ·have HZ:=Qh (show r=1 by rw[HR.o];exact S2.o h);have k1:¬ (x:Int) < y:=ae;have k2:(y:Int) < x:=ae;exact ab2 c1 c2
theorem anT (n:Nat):(aT n)[0]?.getD 0+4294967296*((aT n)[1]?.getD 0)=n % 18446744073709551616:=by
 rw[Ed,Ed];simp only[vQ,Nat.div_one,Nat.pow_one];omega
theorem Xn (x:Nat) (hx:x < 4294967296):bits .or .u64 0 (x:Int)=(x:Int):=by
 have h:=bits_or_u64_nat 0 x ah ae;rw[Nat.zero_or]at h;exact h
theorem p32:(2:Nat) ^ 32=4294967296:=by decide +kernel
theorem aeZ (x y:Nat) (hx:x < 4294967296) (hy:y < 4294967296):bits .or .u64 (x:Int) ((y:Int)*4294967296)=((x+4294967296*y:Nat):Int):=by
 have h:=bits_or_u64_nat x (y*4294967296) ae ae;have e:=Nat.shiftLeft_add_eq_or_of_lt (i:=32) (b:=x) (by rw[p32];exact hx) y;rw[Nat.shiftLeft_eq,Nat.or_comm,p32]at e;rw[← e,BD,e9 y]at h;rw[← h,Int.natCast_mul,Int.mul_comm];rfl
theorem ae0 (n:Nat) (a:Option Addr) (cap:Nat) (w:World) (hs:jL w a cap (aT n)) :
  Calls prog 238 #[.slice a (aT n).length cap] w fun e w'=>
   e=.returned (.tuple #[.int .u64 (n % 18446744073709551616:Nat),.bool (decide (n < 18446744073709551616))])∧w' = w:=by
 have hv:=anT n;have hd:=Ec n;have hlen:=hs.len;have hle:=nT n 2;obtain⟨r,hr⟩:∃ r,r=n % 18446744073709551616:=⟨_,rfl⟩
 obtain⟨b,hb⟩:∃ b,b=decide (n < 18446744073709551616):=⟨_,rfl⟩
 rw[← hr]at hv ⊢;rw[← hb];have hb2:b=decide ((aT n).length≤2):=by
  rw[hb,Fy,rR,rR,hle]
 clear hr hb hle;generalize aT n=l at *
 match l,hs,hv,hd,hlen,hb2 with
 | [],hs,hv,hd,hlen,hb2=>
  have HV:=Qh hv;have HB:=Qh hb2;clear hv hb2;simp only[lF]at *;go_enter func238,ntmps238
  go_wp2_with fail;refine CX ?_;go_wp2_with fail;go_ret2
  exact⟨by rw[HB.o,← HV.o];rfl,rfl⟩
 | [x],hs,hv,hd,hlen,hb2=>
  have HV:=Qh hv;have HB:=Qh hb2;obtain⟨g,o,rfl,hg,hc⟩:=hs.at (show 0 < [x].length by simp);have hx:=hd x aB;simp only[LI,List.getElem_singleton,q7]at *;clear hv hb2;go_enter func238,ntmps238
  go_wp2_with fail;refine wp_loop_rounds 2 ?_;rw[rounds_succ];have o1:=Xn x hx;go_wp2_with fail;rw[rounds_succ];go_wp2_with fail;go_ret2
  exact⟨by rw[HB.o,← HV.o];rfl,rfl⟩
 | [x,y],hs,hv,hd,hlen,hb2=>
  have HV:=Qh hv;have HB:=Qh hb2;obtain⟨g,o,rfl,hg,hc⟩:=hs.at (show 0 < ([x,y]).length by simp);obtain⟨g2,o2,he,hg2,hc2⟩:=hs.at (show 1 < ([x,y]).length by simp);simp only[Option.some.injEq,Addr.mk.injEq,and_true]at he;obtain⟨rfl,rfl⟩:=he;have hx:=hd x aB;have hy:=hd y aB;have o1:=Xn x hx;have o2:=aeZ x y hx hy;have HR:=Qh (show x+4294967296*y=r from hv);rw[HR.o]at o2;simp only[dz,lF,zu,zv,q7]at *;clear hv hb2 hg2;go_enter func238,ntmps238
  go_wp2_with fail;refine wp_loop_rounds 3 ?_;rw[rounds_succ];go_wp2_with fail;rw[rounds_succ];go_wp2_with fail;rw[rounds_succ];go_wp2_with fail;go_ret2
  exact⟨by rw[HB.o];rfl,rfl⟩
 | x::y::z::l,hs,hv,hd,hlen,hb2=>
  have HV:=Qh hv;have HB:=Qh hb2;obtain⟨g,o,rfl,hg,hc⟩:=hs.at (show 0 < (x::y::z::l).length by simp);obtain⟨g2,o2,he,hg2,hc2⟩:=hs.at (show 1 < (x::y::z::l).length by simp);simp only[Option.some.injEq,Addr.mk.injEq,and_true]at he;obtain⟨rfl,rfl⟩:=he;have hx:=hd x aB;have hy:=hd y aB;have o1:=Xn x hx;have o2:=aeZ x y hx hy;have HR:=Qh (show x+4294967296*y=r from hv);rw[HR.o]at o2;simp only[dz,zu,zv,q7]at *;clear hv hb2 hg2;obtain⟨m,hm⟩:∃ m,m=l.length:=⟨_,rfl⟩
  rw[← hm]at *;have k1:(2:Int) < (m:Int)+1+1+1:=ae;have k2:¬ (m:Int)+1+1+1≤2:=ae;have k3:decide ((m:Int)+1+1+1≤2)=false:=dU ae;clear hm;go_enter func238,ntmps238
  go_wp2_with fail;refine wp_loop_rounds 3 ?_;rw[rounds_succ];go_wp2_with fail;rw[rounds_succ];go_wp2_with fail;rw[rounds_succ];go_wp2_with fail;go_ret2
  exact⟨by rw[HB.o];rw[dU (show ¬ l.length+1+1+1≤2 by omega)];rfl,rfl⟩
def Rv (b:Bool) (x:Value):Prop:=x=.bool b
def anU (m n K:Nat) (w wr:World) (v c i:Value):Prop:=∃ (k cy:Nat) (xs:List Nat),i=.int .i64 (k:Nat)∧k≤K+1∧c=.int .u64 (cy:Nat)∧cy≤1 ∧
 aG wr w.heap.size 36 1 xk v xs∧xs.length=k∧nS xs∧dT xs+cy*4294967296 ^ k=m % 4294967296 ^ k+n % 4294967296 ^ k∧Below w.heap.size w wr
theorem anV {m n K v c:Nat} (hm:m < 4294967296 ^ K) (hn:n < 4294967296 ^ K) (h:v+c*4294967296 ^ (K+1)=m % 4294967296 ^ (K+1)+n % 4294967296 ^ (K+1)) (hc:c≤1):v=m+n:=by
 have hp:4294967296 ^ (K+1)=4294967296 ^ K*4294967296:=e8 ..;rw[qY ae,qY ae]at h;have:c=0∨c=1:=ae
 rcases this with rfl|rfl
 ·simpa using h
 ·omega
theorem Xo (m n:Nat) (a b:Option Addr) (ca cb:Nat) (hm:(aT m).length≤1000000) (hn:(aT n).length≤1000000) (w:World) (hs:jL w a ca (aT m)) (ht:jL w b cb (aT n)) :
  Calls prog 204 #[.slice a (aT m).length ca,.slice b (aT n).length cb] w (z8 w (m+n)):=by
 obtain⟨K,hK⟩:∃ K:Nat,K=max (aT m).length (aT n).length:=⟨_,rfl⟩
 have Ef:m < 4294967296 ^ K:=(nT m K).1 ae;have hnK:n < 4294967296 ^ K:=(nT n K).1 ae;have hK3:K≤1000000:=ae;have Ee:=Qh hK;have HE:=Qh (And.intro Ef hnK);have HS:=Qh hs;have HT:=Qh ht;clear hK Ef hnK hs ht;have cd:=fun (i:Nat) (hi:i < 4611686018427387904) (wr:World) (h:Below w.heap.size w wr)=>JH (aT m) (Ec m) a ca i hi wr (HS.o.keep h af)
 have ce:=fun (i:Nat) (hi:i < 4611686018427387904) (wr:World) (h:Below w.heap.size w wr)=>JH (aT n) (Ec n) b cb i hi wr (HT.o.keep h af)
 simp only[Ed]at cd ce;generalize (aT m).length=lm at *;generalize (aT n).length=ln at *;go_enter func204,ntmps204
 go_wp2_with fail;go_loopw [5,6,7] (fun v c i wr=>anU m n K w wr v c i) (fun _ _ i _=>K+1 - (intOf i).toNat)
 case atStart=>exact⟨0,0,[],rfl,bV _,rfl,bV _,aG.nil _ _ _ _ _,rfl,(fun _ h=>absurd h Fv),by simp[dT,Nat.mod_one],aC _ _⟩
 case round=>
  obtain⟨k,cy,xs,rfl,hk,rfl,Rw,hown,hlen,dp,hv,hb⟩:=hrel;have HV:=Qh hv;have ky:=Qh dp;have yt:=Qh hlen;clear hv dp hlen;go_upto_region 4 with fail
  go_cut [15] (fun x wc=>Rv (decide (k≤K)) x∧wc=wr)
  case first=>
   by_cases hlt:(lm:Int) < ln
   ·have HQ:=Qh (show decide ((k:Int)≤(ln:Int))=decide (k≤K)by rw[Fy,rR,rR];have:=Ee.o;omega);go_wp2_with fail;go_meet
    case rel=>exact⟨by rw[← HQ.o];simp[Rv],rfl⟩
   ·have HQ:=Qh (show decide ((k:Int)≤(lm:Int))=decide (k≤K)by rw[Fy,rR,rR];have:=Ee.o;omega);go_wp2_with fail;go_meet
    case rel=>exact⟨by rw[← HQ.o];simp[Rv],rfl⟩
  case rest=>
   obtain⟨hx,rfl⟩:=hcut;unfold Rv at hx;by_cases MZ:k≤K
   ·rw[fy MZ]at hx;subst hx;have c1:=cd k ae _ hb;have c2:=ce k ae _ hb;have x1:=ic (m / 4294967296 ^ k) (show 0 < 4294967296 by decide);have x2:=ic (n / 4294967296 ^ k) (show 0 < 4294967296 by decide);have HST:=Qh (anW m n k (dT xs) cy HV.o _ rfl);clear cd ce;generalize m / 4294967296 ^ k % 4294967296=x at *;generalize n / 4294967296 ^ k % 4294967296=y at *;have e1:IntKind.u32.wrap ((x:Int)+(y:Int)+(cy:Int))=(((x+y+cy) % 4294967296:Nat):Int):=PD;have e2:((x:Int)+(y:Int)+(cy:Int)) / 4294967296=(((x+y+cy) / 4294967296:Nat):Int):=ae;have hlo:(x+y+cy) % 4294967296 < 4294967296:=ae;have hhi:(x+y+cy) / 4294967296≤1:=ae;generalize (x+y+cy) % 4294967296=lo at *;generalize (x+y+cy) / 4294967296=hi at *;have tL:=Qh hlo;clear hlo;go_wp2_with fail;(with_reducible refine c1.mono ?_);rintro e w1 ⟨rfl,rfl⟩;go_wp2_with fail;(with_reducible refine c2.mono ?_);rintro e w1 ⟨rfl,rfl⟩;clear c1 c2;go_wp2_with (at_builtin;go_loud (refine BK Ru xs lo hown hb af (by have:=yt.o;omega) ?_ (hone:=P5)))
    intro v' w2 rr hb2;clear hown hb;go_wp2_with fail;go_roundw;case rel=>exact⟨k+1,hi,xs++[lo],bL,ae,rfl,hhi,rr,by rw[ey,yt.o];rfl,ae1 ky.o tL.o,by rw[Xm,yt.o];exact HST.o,hb2⟩
    case measure=>simp[intOf];omega
   ·rw[dU MZ]at hx;subst hx;have ij:k=K+1:=ae;subst ij;have M0:=Qh (anV HE.o.1 HE.o.2 HV.o Rw);obtain⟨g,cg,rfl,uT⟩:=hown.shape;have ct:=MY xs ky.o g cg _ uT;rw[M0.o]at ct;have HF:=Qh (fun kk=>Xl hown kk);clear hown cd ce;go_wp2_with fail;refine ct.mono ?_;rintro e w1 ⟨kk,rfl,rN,rfl⟩;have Gn:=Qh rN;clear rN ct;go_wp2_with fail;go_ret;exact⟨_,rfl,Gn.o,HF.o _,hb⟩
def anX (m n K:Nat) (w wr:World) (v c i:Value):Prop:=∃ (k cy:Nat) (xs:List Nat),i=.int .i64 (k:Nat)∧k≤K∧c=.int .u64 (cy:Nat)∧cy≤1 ∧
 aG wr w.heap.size 36 1 xk v xs∧xs.length=k∧nS xs∧dT xs+n % 4294967296 ^ k=m % 4294967296 ^ k+cy*4294967296 ^ k∧Below w.heap.size w wr
theorem anY {m n K v c:Nat} (hm:m < 4294967296 ^ K) (zL:n≤m) (hv:v < 4294967296 ^ K) (h:v+n % 4294967296 ^ K=m % 4294967296 ^ K+c*4294967296 ^ K) (hc:c≤1):v=m - n:=by
 rw[qY ae,qY hm]at h;have:c=0∨c=1:=ae
 rcases this with rfl|rfl<;>omega
theorem anZ (m n:Nat) (zL:n≤m) (a b:Option Addr) (ca cb:Nat) (hm:(aT m).length≤1000000) (w:World) (hs:jL w a ca (aT m)) (ht:jL w b cb (aT n)) :
  Calls prog 261 #[.slice a (aT m).length ca,.slice b (aT n).length cb] w (z8 w (m - n)):=by
 have Ef:m < 4294967296 ^ (aT m).length:=(nT m _).1 af;have HE:=Qh (And.intro Ef zL);have HS:=Qh hs;have HT:=Qh ht;clear Ef hs ht zL;have cd:=fun (i:Nat) (hi:i < 4611686018427387904) (wr:World) (h:Below w.heap.size w wr)=>JH (aT m) (Ec m) a ca i hi wr (HS.o.keep h af)
 have ce:=fun (i:Nat) (hi:i < 4611686018427387904) (wr:World) (h:Below w.heap.size w wr)=>JH (aT n) (Ec n) b cb i hi wr (HT.o.keep h af)
 simp only[Ed]at cd ce;generalize (aT m).length=K at *;generalize (aT n).length=ln at *;go_enter func261,ntmps261
 go_wp2_with fail;go_loopw [5,6,7] (fun v c i wr=>anX m n K w wr v c i) (fun _ _ i _=>K - (intOf i).toNat)
 case atStart=>exact⟨0,0,[],rfl,bV _,rfl,bV _,aG.nil _ _ _ _ _,rfl,(fun _ h=>absurd h Fv),by simp[dT,Nat.mod_one],aC _ _⟩
 case round=>
  obtain⟨k,cy,xs,rfl,hk,rfl,Rw,hown,hlen,dp,hv,hb⟩:=hrel;have HV:=Qh hv;have ky:=Qh dp;have yt:=Qh hlen;clear hv dp hlen;by_cases MZ:(k:Int) < K
  ·have c1:=cd k ae _ hb;have c2:=ce k ae _ hb;have x1:=ic (m / 4294967296 ^ k) (show 0 < 4294967296 by decide);have x2:=ic (n / 4294967296 ^ k) (show 0 < 4294967296 by decide);have hst:=an0 m n k (dT xs) cy HV.o Rw (4294967296+m / 4294967296 ^ k % 4294967296 - n / 4294967296 ^ k % 4294967296 - cy) ae;have HST:=Qh hst;clear cd ce hst;generalize m / 4294967296 ^ k % 4294967296=x at *;generalize n / 4294967296 ^ k % 4294967296=y at *;have en:(4294967296:Int)+(x:Int) - (y:Int) - (cy:Int)=((4294967296+x - y - cy:Nat):Int):=ae;have zS:4294967296+x - y - cy < 8589934592:=ae;generalize 4294967296+x - y - cy=nn at *;have e1:IntKind.u32.wrap (nn:Int)=((nn % 4294967296:Nat):Int):=PD;have e2:(nn:Int) / 4294967296=((nn / 4294967296:Nat):Int):=ae;have hlo:nn % 4294967296 < 4294967296:=ae;have hhi:nn / 4294967296≤1:=ae;have e3:(1:Int) - ((nn / 4294967296:Nat):Int)=((1 - nn / 4294967296:Nat):Int):=ae;generalize nn % 4294967296=lo at *;generalize nn / 4294967296=hi at *;have an1:1 - hi≤1:=ae;generalize 1 - hi=cy2 at *;have tL:=Qh hlo;clear hlo;go_wp2_with fail;(with_reducible refine c1.mono ?_);rintro e w1 ⟨rfl,rfl⟩;go_wp2_with fail;(with_reducible refine c2.mono ?_);rintro e w1 ⟨rfl,rfl⟩;clear c1 c2;go_wp2_with (at_builtin;go_loud (refine BK Ru xs lo hown hb af (by have:=yt.o;omega) ?_ (hone:=P5)))
   intro v' w2 rr hb2;clear hown hb;go_wp2_with fail;go_roundw;case rel=>exact⟨k+1,cy2,xs++[lo],bL,ae,rfl,an1,rr,by rw[ey,yt.o];rfl,ae1 ky.o tL.o,by rw[Xm,yt.o];exact HST.o.1,hb2⟩
   case measure=>simp[intOf];omega
  ·have ij:k=K:=ae;subst ij;have M0:=Qh (anY HE.o.1 HE.o.2 (by have:=ae2 ky.o;rwa [yt.o]at this) HV.o Rw);obtain⟨g,cg,rfl,uT⟩:=hown.shape;have ct:=MY xs ky.o g cg _ uT;rw[M0.o]at ct;have HF:=Qh (fun kk=>Xl hown kk);clear hown cd ce;go_wp2_with fail;refine ct.mono ?_;rintro e w1 ⟨kk,rfl,rN,rfl⟩;have Gn:=Qh rN;clear rN ct;go_wp2_with fail;go_ret;exact⟨_,rfl,Gn.o,HF.o _,hb⟩
theorem Nb:(2:Nat) ^ 32=4294967296:=by decide +kernel
theorem Rz (j:Nat):4294967296 ^ j=2 ^ (32*j):=by rw[Nat.pow_mul,Nb]
theorem aow {l:List Nat} (hl:nS l) (j:Nat) (hj:j < l.length):l[j]=dT l / 4294967296 ^ j % 4294967296:=by
 induction l generalizing j with
 | nil=>simp at hj
 | cons d l ih=>
  have h1:=hl d aB;cases j with
  | zero=>rw[zu,dT,vQ,Nat.div_one];omega
  | succ j=>
   rw[zv,ih (fun x hx=>hl x xp) j (by simpa using hj),dT,e8,e9 (4294967296 ^ j),← Dh]
   congr 2
   omega
theorem XB (l:List Nat) (j:Nat) (hj:j < l.length) (y:Nat):dT (l.set j y)+4294967296 ^ j*l[j]=dT l+4294967296 ^ j*y:=by
 induction l generalizing j with
 | nil=>simp at hj
 | cons d l ih=>
  cases j with
  | zero=>simp[dT];omega
  | succ j=>
   have:=ih j (by simpa using hj);rw[ox,dT,dT,zv,e8,e9 (4294967296 ^ j),lH,lH];omega
theorem an9 (m i:Nat):m / 4294967296 ^ (i / 32) % 4294967296 / 2 ^ (i % 32) % 2=m / 2 ^ i % 2:=by
 have hs:i % 32 < 32:=ic _ ah;have e:i=32*(i / 32)+i % 32:=(Nat.div_add_mod i 32).symm;have e1:m / 2 ^ i=m / 4294967296 ^ (i / 32) / 2 ^ (i % 32):=by
  conv=>lhs;rw[e]
  rw[Rz,Nat.pow_add,Dh]
 rw[e1];generalize m / 4294967296 ^ (i / 32)=x;generalize i % 32=s at *;have e2:(4294967296:Nat)=2 ^ s*2 ^ (32 - s):=(by rw[← Nat.pow_add,show s+(32 - s)=32 by omega,Nb]);rw[e2,Nat.mod_mul_right_div_self];have e3:(2:Nat) ^ (32 - s)=2*2 ^ (31 - s):=(by rw[show 32 - s=(31 - s)+1 by omega,e8,e9]);rw[e3,Nat.mod_mul_right_mod]
theorem aox {x s:Nat} (h:2 ^ (s+1) ∣ x):x ||| 2 ^ s=x+2 ^ s:=by
 obtain⟨c,rfl⟩:=h;have:=Nat.shiftLeft_add_eq_or_of_lt (i:=s+1) (b:=2 ^ s) (Nat.pow_lt_pow_right ah ae) c;rw[Nat.shiftLeft_eq,e9]at this;exact this.symm
theorem aoy {v i Q:Nat} (hv:v=2 ^ (i+1)*Q):2 ^ (i % 32+1) ∣ v / 4294967296 ^ (i / 32) % 4294967296:=by
 have hs:i % 32 < 32:=ic _ ah;have e:i+1=32*(i / 32)+(i % 32+1):=(by have:=Nat.div_add_mod i 32;omega);have e3:2 ^ (32*(i / 32)+(i % 32+1))=4294967296 ^ (i / 32)*2 ^ (i % 32+1):=(by rw[Nat.pow_add 2 (32*(i / 32)),← Rz]);rw[hv,e,e3,lH,Bq _ (uH ah)];generalize i % 32=s at *;have e2:(4294967296:Nat)=2 ^ (s+1)*2 ^ (31 - s):=(by rw[← Nat.pow_add,show s+1+(31 - s)=32 by omega,Nb]);rw[e2,Nat.mul_mod_mul_left];exact⟨_,rfl⟩
structure Ac (m n i v r:Nat):Prop where
 lt:r < n
 ex:∃ Q,v=2 ^ i*Q∧Q*n+r=m / 2 ^ i
theorem afn {m i:Nat}:m / 2 ^ i=2*(m / 2 ^ (i+1))+m / 2 ^ i % 2:=by
 rw[e8,← Dh];omega
theorem aoe {m n i v r:Nat} (h:Ac m n (i+1) v r) (hlt:r+r+m / 2 ^ i % 2 < n):Ac m n i v (r+r+m / 2 ^ i % 2):=by
 obtain⟨h1,Q,h2,h3⟩:=h;refine⟨hlt,2*Q,by rw[h2,e8,lH],?_⟩
 conv=>rhs;rw[afn,← h3]
 rw[lH];omega
theorem aof {m n i v r:Nat} (h:Ac m n (i+1) v r) (hge:n≤r+r+m / 2 ^ i % 2):Ac m n i (v+2 ^ i) (r+r+m / 2 ^ i % 2 - n):=by
 obtain⟨h1,Q,h2,h3⟩:=h;have hb:m / 2 ^ i % 2 < 2:=ic _ ah;refine⟨ae,2*Q+1,by rw[h2,e8,q8,lH,Nat.mul_one],?_⟩
 conv=>rhs;rw[afn,← h3]
 rw[th,lH];omega
theorem an8 {m n v r:Nat} (h:Ac m n 0 v r):v=m / n∧r=m % n:=by
 obtain⟨h1,Q,h2,h3⟩:=h;rw[vQ,Nat.div_one]at h3;rw[vQ,Nat.one_mul]at h2;subst h2;rw[← h3,e9,Nat.mul_add_div ae,BA h1,Nat.mul_add_mod,qY h1];exact lz
theorem an7 (m n K:Nat) (hm:m < 4294967296 ^ K) (hn:0 < n):Ac m n (32*K) 0 0:=
 ⟨hn,0,aB,by rw[← Rz,BA hm];simp⟩
theorem ae7 (k:Nat):dT (List.replicate k 0)=0:=by
 induction k with
 | zero=>rfl
 | succ k ih=>rw[List.replicate_succ,dT,ih]
theorem aoh {xs:List Nat} (dp:nS xs) {m n i r q s:Nat} (h:Ac m n (i+1) (dT xs) r) (hq:q=i / 32) (hs:s=i % 32) (yu:q < xs.length) :
  ∃ x,xs[q]=x∧x < 4294967296∧x ||| 2 ^ s=x+2 ^ s∧2 ^ s < 4294967296∧x+2 ^ s < 4294967296∧dT (xs.set q (x+2 ^ s))=dT xs+2 ^ i:=by
 have ae8:s < 32:=ae;have hxd:=aow dp q yu;have M4:=dp xs[q] (gU _);have Nc:=fun y=>XB xs q yu y
 have z6:2 ^ (s+1) ∣ xs[q]:=by
  obtain⟨Q,hQ1,_⟩:=h.ex;rw[hxd,hq,hs];exact aoy hQ1
 clear hxd;generalize xs[q]=x at *;refine⟨x,rfl,M4,aox z6,?_,?_,?_⟩
 ·rw[← Nb];exact Nat.pow_lt_pow_right ah ae8
 ·obtain⟨c,hc⟩:=z6;have e2:(4294967296:Nat)=2 ^ (s+1)*2 ^ (31 - s):=(by rw[← Nat.pow_add,show s+1+(31 - s)=32 by omega,Nb]);have hc2:c < 2 ^ (31 - s):=by
   rw[hc,e2]at M4;exact Nat.lt_of_mul_lt_mul_left M4
  have h3:=zw (2 ^ (s+1)) (show c+1≤2 ^ (31 - s)from hc2);rw[← e2,q8,← hc,Nat.mul_one,e8]at h3;have hp:0 < 2 ^ s:=uH ah;omega
 ·have e:4294967296 ^ q*2 ^ s=2 ^ i:=(by rw[Rz,← Nat.pow_add,hq,hs,Nat.div_add_mod]);have h4:=Nc (x+2 ^ s);rw[q8,e]at h4;omega
def Xp (v u:Value):Prop:=∀ ad n c,v=.slice (some ad) n c→∀ bd n' c',u=.slice (some bd) n' c'→ad.block≠bd.block
def ae3 (B:Nat) (u:Value):Prop:=∀ bd n c,u=.slice (some bd) n c→bd.block < B
theorem ae4 {α:Type} {w:World} {base:Nat} {e:TypeId} {size:Nat} {en:α→List Value} {v:Value} {xs:List α} (h:aG w base e size en v xs):ae3 w.heap.size v:=fun bd n c he=>by
 subst he;exact(h.lt bd.block rfl).2
theorem ae5 {B B':Nat} {v u:Value} (h:Gm B v) (h2:ae3 B' u) (hB:B'≤B):Xp v u:=fun ad n c e1 bd n' c' e2=>by
 have:=h ad n c e1;have:=h2 bd n' c' e2;omega
theorem an2 {w:World} {v:Value} {n:Nat} (h:lQ w v n) {g q len cap:Nat} {u:Value} (ha:Xp v (.slice (some ⟨g,0,none⟩) len cap)):lQ (w.setCell ⟨g,q,none⟩ u) v n:=by
 obtain⟨a,c,rfl,hs⟩:=h;refine⟨a,c,rfl,hs.of_block fun b o e=>?_⟩;subst e;exact dN w _ u b (ha _ _ _ rfl ⟨g,0,none⟩ _ _ rfl)
def an3 (m n K:Nat) (w wr:World) (vq vr i:Value):Prop:=∃ (j r:Nat) (xs:List Nat),i=.int .i64 ((j:Int) - 1)∧j≤32*K∧aG wr w.heap.size 36 1 xk vq xs∧xs.length=K∧nS xs ∧
 Ac m n j (dT xs) r∧lQ wr vr r∧Xp vr vq∧Below w.heap.size w wr
def an4 (w:World) (q r:Nat) (e:Ending) (w':World):Prop:=∃ v u,e=.returned (.tuple #[v,u])∧lQ w' v q∧lQ w' u r∧Below w.heap.size w w'
theorem ae6 (w:World):lQ w (.slice none 0 0) 0:=⟨none,0,by rw[uU];rfl,by rw[uU];exact bA.nil _ _ _⟩
theorem an5 (a:Nat) (h:a < 4294967296):IntKind.u32.wrap (a:Int)=(a:Int):=Pz
theorem an6 (x:Nat) (h:x < 4294967296):bits .and .u64 (x:Int) 1=((x % 2:Nat):Int):=by
 rw[and_one_u64 _ ae ae];omega
theorem Xq (m n:Nat) (mF:0 < n) (a b:Option Addr) (ca cb:Nat) (hm:(aT m).length≤100000) (hn:(aT n).length≤100000) (w:World) (hs:jL w a ca (aT m)) (ht:jL w b cb (aT n)) :
  Calls prog 237 #[.slice a (aT m).length ca,.slice b (aT n).length cb] w (an4 w (m / n) (m % n)):=by
 have Ef:m < 4294967296 ^ (aT m).length:=(nT m _).1 af;refine aY (an7 m n _ Ef mF) hs ht ?_;intro HST HS HT;clear Ef hs ht;generalize hK:(aT m).length=K at *;have HK:=Qh hK;clear hK;go_enter func237,ntmps237
 go_wp2_with fail;go_loopw [6,7] (fun v i wr=>∃ k:Nat,i=.int .i64 (k:Nat)∧k≤K∧aG wr w.heap.size 36 1 xk v (List.replicate k 0)∧Below w.heap.size w wr) (fun _ i _=>K - (intOf i).toNat)
 case atStart=>exact⟨0,rfl,bV _,aG.nil _ _ _ _ _,aC _ _⟩
 case round=>
  obtain⟨k,rfl,hk,hown,hb⟩:=hrel;by_cases MZ:(k:Int) < K
  ·go_wp2_with (at_builtin;go_loud (refine BK Ru (List.replicate k 0) 0 hown hb af cO ?_ (hone:=P5)))
   intro v' w2 rr hb2;clear hown hb;go_wp2_with fail;go_roundw;case rel=>exact⟨k+1,bL,ae,by rw[List.replicate_succ'];exact rr,hb2⟩
   case measure=>exact bY
  ·obtain rfl:k=K:=by omega
   obtain⟨aq,cq,rfl,_⟩:=hown.shape;rw[rQ]at *;go_wp2_with fail;go_loopw [8,9] (fun vr i wr=>an3 m n k w wr (.slice aq k cq) vr i) (fun _ i _=>(intOf i+1).toNat)
   case atStart=>exact⟨32*k,0,List.replicate k 0,bL,af,hown,rQ,(fun x hx=>by rw[(List.mem_replicate.1 hx).2];decide),by rw[ae7];exact HST.o,ae6 _,(fun ad n' c' he=>by simp at he),hb⟩
   case round=>
    clear hown hb;obtain⟨j,r,xs,rfl,hj,hown,hlen,dp,hd,hr,hap,hb⟩:=hrel;rcases qu j with h0|h0
    ·subst h0;obtain⟨e1,e2⟩:=an8 hd;obtain⟨g,cg,iQ,uT⟩:=hown.shape;rw[hlen]at iQ;simp only[Value.slice.injEq,true_and]at iQ;obtain⟨rfl,rfl⟩:=iQ;have ct:=MY xs dp aq cq _ uT;rw[hlen]at ct;have HE:=Qh (And.intro e1 e2);have HR:=Qh hr;clear hd hown hr e1 e2;go_wp2_with fail;refine ct.mono ?_;rintro e w1 ⟨kk,rfl,rN,rfl⟩;have Gn:=Qh rN;clear rN ct;go_wp2_with fail;go_ret2
     exact⟨_,_,rfl,by rw[← HE.o.1];exact Gn.o,by rw[← HE.o.2];exact HR.o,hb⟩
    ·obtain⟨i,rfl⟩:∃ i,j=i+1:=⟨j - 1,ae⟩
     have e0:((i+1:Nat):Int) - 1=(i:Int):=ae;rw[e0];obtain⟨q,hq⟩:∃ q,q=i / 32:=⟨_,rfl⟩
     obtain⟨s,hs⟩:∃ s,s=i % 32:=⟨_,rfl⟩
     have Xr:q < k:=ae;have ae8:s < 32:=ae;have r2:(i:Int) / 32=(q:Int):=ae;have r3:(i:Int) % 32=(s:Int):=ae;obtain⟨ga,oa,rfl,_,hc⟩:=jL.at (HS.o.keep hb af) (show q < (aT m).length by rw[HK.o];exact Xr);have jn:(aT m)[q]'(by rw[HK.o];exact Xr)=m / 4294967296 ^ q % 4294967296:=by
      rw[← Ed,kC (by rw[HK.o];exact Xr)];rfl
     rw[jn]at hc;have Xs:=an9 m i;rw[← hq,← hs]at Xs;have fY:m / 4294967296 ^ q % 4294967296 < 4294967296:=ic _ ah;clear jn;generalize m / 4294967296 ^ q % 4294967296=d at *;have r4:(d:Int) / 2 ^ s=((d / 2 ^ s:Nat):Int):=(by rw[Int.natCast_ediv];simp);have Dz:d / 2 ^ s≤d:=Fz _ _;have r5:bits .and .u64 ((d / 2 ^ s:Nat):Int) 1=((m / 2 ^ i % 2:Nat):Int):=by
      rw[an6 _ (Bx Dz fY),Xs]
     have hb2:m / 2 ^ i % 2 < 2:=ic _ ah;have HQ:=Qh (And.intro hq hs);have HD:=Qh hd;have hrn:=hd.lt;clear Xs hq hs hd;generalize d / 2 ^ s=ds at *;generalize gh:m / 2 ^ i % 2=bit at *;have eE:=Qh gh;have i1:(ds:Int)≤4294967295:=ae;clear gh fY Dz;obtain⟨ar,cr,rfl,DD⟩:=hr;have hnL:n < 4294967296 ^ (aT n).length:=(nT n _).1 af;have hrL:(aT r).length≤(aT n).length:=(nT r _).2 ae;have aoa:(aT (r+r)).length≤(aT n).length+1:=(nT _ _).2 (by rw[e8];omega);have hbL:(aT bit).length≤1:=(nT _ _).2 (by rw[Nat.pow_one];omega);have hRL:(aT (r+r+bit)).length≤(aT n).length+1:=(nT _ _).2 (by rw[e8];omega);have p1:=Xo r r ar ar cr cr ae ae _ DD DD;have HR:=Qh DD;have HRN:=Qh hrn;clear hnL hrn DD;have jo:=Qh hown;have HQB:=Qh (ae4 hown);clear hown hap;go_wp2_with fail;refine aI p1 ?_;rintro e w1 ⟨v1,rfl,⟨a1,c1,rfl,hs1⟩,hf,hb1⟩;have bX:=Qh (aH hb hb1 af);have aob:=Qh (aG.keep jo.o hb1 af);have p2:=fun w'=>JI bit ae w'
     have ae9:=hb1;clear hb1 p1 hf;go_wp2_with fail;refine aI (p2 _) ?_
     rintro e w2 ⟨v2,rfl,⟨a2,c2,rfl,hs2⟩,hf,M3⟩;have aM:=Qh (aH bX.o M3 af);have aoc:=Qh (aG.keep aob.o M3 af);have p3:=Xo (r+r) bit a1 a2 c1 c2 ae ae w2 (hs1.keep M3 af) hs2;clear p2 hs1 hs2 hf;go_wp2_with fail;refine aI p3 ?_;rintro e w3 ⟨v3,rfl,⟨a3,c3,rfl,hs3⟩,hf,hb3⟩;have bT:=Qh (aH aM.o hb3 af);have Xt:=Qh (aG.keep aoc.o hb3 af);have Xu:=HT.o.keep bT.o af;have aod:=Qh (ae5 hf HQB.o (bQ ae9.size M3.size));have p4:=anS (r+r+bit) n a3 b c3 cb ae ae w3 hs3 Xu;clear hb3 p3 hf ae9 M3;obtain⟨R,hR⟩:∃ R,R=r+r+bit:=⟨_,rfl⟩
     rw[← hR]at hs3 p4 hRL ⊢;have Eg:=Qh hR;clear hR aoa hbL hrL hc r4 r5;obtain⟨hv,Eh⟩:∃ x,x=Ab R n:=⟨_,rfl⟩
     rw[← Eh]at p4;by_cases JJ:R < n
     ·have eT:hv = -1:=(by rw[Eh];unfold Ab;rw[if_pos JJ]);have HDN:=Qh (show Ac m n i (dT xs) R by
       have:=aoe HD.o (by rw[eE.o,← Eg.o];exact JJ)
       rwa [eE.o,← Eg.o]at this)
      subst eT;clear Eh;go_wp2_with fail;refine aI p4 ?_;rintro e w4 ⟨rfl,rfl⟩;clear p4;go_wp2_with fail;go_roundw;case rel=>exact⟨i,R,xs,rfl,ae,Xt.o,hlen,dp,HDN.o,⟨a3,c3,rfl,hs3⟩,(by have h:=aod.o;rwa [← Eg.o]at h),bT.o⟩
      case measure=>simp[intOf]
     ·have eT:0≤hv:=(by rw[Eh];unfold Ab;rw[if_neg JJ];split<;>decide);have HDY:=Qh (show Ac m n i (dT xs+2 ^ i) (R - n)by
       have:=aof HD.o (by rw[eE.o,← Eg.o];omega)
       rwa [eE.o,← Eg.o]at this)
      have p5:=anZ R n ae a3 b c3 cb ae w3 hs3 Xu;clear Eh;go_wp2_with fail;refine aI p4 ?_;rintro e w4 ⟨rfl,rfl⟩;clear p4;go_wp2_with fail;refine aI p5 ?_;rintro e w5 ⟨v5,rfl,⟨a5,c5,rfl,hs5⟩,hf,hb5⟩;have ir:=Qh (aH bT.o hb5 af);have fP:=aG.keep Xt.o hb5 af;have afa:=Qh (ae5 hf (ae4 Xt.o) af);have aog:=Qh (show lQ w5 _ (R - n)from ⟨a5,c5,rfl,hs5⟩);clear hb5 p5 hs3 Xu hf hs5;have hk0:0 < xs.length:=ae;obtain⟨g,cg,iQ,hgb,afb,Xv,hcm⟩:=fP.block hk0;rw[hlen]at iQ;simp only[Value.slice.injEq,true_and]at iQ;obtain⟨rfl,rfl⟩:=iQ;have hfr:=fP.free q;obtain⟨_,_,hge,_,Ad⟩:=jL.at fP.sl.2 (show q < xs.length by omega);simp only[Option.some.injEq,Addr.mk.injEq,and_true]at hge;obtain⟨rfl,rfl⟩:=hge;rw[kF]at Ad;obtain⟨x,hx,M4,jT,fR,afc,M5⟩:=aoh dp HD.o HQ.o.1 HQ.o.2 ae;rw[hx]at Ad;have r6:bits .or .u32 (x:Int) ((2 ^ s:Nat):Int)=((x+2 ^ s:Nat):Int):=(by rw[u32_or_nat _ _ M4 fR,jT]);have r7:IntKind.u32.wrap (2 ^ s)=((2 ^ s:Nat):Int):=by
       have:((2:Int) ^ s)=((2 ^ s:Nat):Int):=aB
       rw[this];exact an5 _ fR
      have r8:IntKind.i64.wrap ((i:Int) / 32)=(q:Int):=(by rw[r2];unfold IntKind.wrap;simp[IntKind.bits,IntKind.signed];omega);have auZ:(q:Int) < k:=ae;generalize hpw:2 ^ s=pw at *;have aoi:=Qh fP;refine fQ M5 afc hx (fun z:aW w5=>aW.cell Ad z) ?_;intro We M0 HX l0
      clear hx jT fR M5 afc fP hk0;go_upto_region 14 with fail
      refine adm 13 aj aj ?_;refine UW ?_
      repeat (go_big_quiet_step (fail))
      refine uk ?_;intro z;have l1:=l0 z;refine aY (aH ir.o z.below af) (aG.keep aoi.o z.below af) (aog.o.keep z.below) ?_;intro mg afd aoj;have Xw:=afd.o.free q;clear l0 hfr Ad;generalize z.w=w6 at *;go_wp2_with fail;go_roundw;case rel=>exact⟨i,R - n,xs.set q (x+pw),rfl,ae,aG.Qz (fun y:Nat=>.int .u32 (y:Nat)) (fun _=>rfl) afd.o (x+pw) ae,by rw[kD];exact hlen,Xx dp q M0.o,by rw[We.o];exact HDY.o,an2 aoj.o afa.o,afa.o,mg.o.setCell cO _⟩
      case measure=>simp[intOf]
structure JN (m n L i k:Nat) (xs:List Nat) (c:Nat):Prop where
 len:xs.length=L
 ok:nS xs
 RA:c < 4294967296
 val:dT xs+c*4294967296 ^ (i+k)=(m % 4294967296 ^ i)*n+4294967296 ^ i*(m / 4294967296 ^ i % 4294967296)*(n % 4294967296 ^ k)
 high:∀ j,(h:j < xs.length)→i+(aT n).length≤j→xs[j]=0
structure JO (m n L i:Nat) (xs:List Nat):Prop where
 len:xs.length=L
 ok:nS xs
 val:dT xs=(m % 4294967296 ^ i)*n
 high:∀ j,(h:j < xs.length)→i+(aT n).length≤j→xs[j]=0
theorem aoz (m n L:Nat):JO m n L 0 (List.replicate L 0):=
 ⟨rQ,fun x hx=>by rw[(List.mem_replicate.1 hx).2];decide,by rw[ae7];simp[Nat.mod_one],fun j h _=>aB⟩
theorem aoA {m n L i:Nat} {xs:List Nat} (h:JO m n L i xs):JN m n L i 0 xs 0:=
 ⟨h.len,h.ok,ah,by rw[h.val];simp[Nat.mod_one],h.high⟩
theorem aoB {m n L i:Nat} {xs:List Nat} (h:JO m n L i xs) (hi:(aT m).length≤i):dT xs=m*n:=by
 rw[h.val,afm hi]
theorem afo {x y l c:Nat} (hx:x < 4294967296) (hy:y < 4294967296) (hl:l < 4294967296) (hc:c < 4294967296):x*y+l+c < 18446744073709551616:=by
 have:=Nat.mul_le_mul (show x≤4294967295 by omega) (show y≤4294967295 by omega);omega
theorem aoC {m n L i k:Nat} {xs:List Nat} {c:Nat} (h:JN m n L i k xs c) (hL:i+k < L) (hk:k < (aT n).length) (N:Nat)
  (hN:N=m / 4294967296 ^ i % 4294967296*(n / 4294967296 ^ k % 4294967296)+xs[i+k]'(by rw[h.len];exact hL)+c) :
  JN m n L i (k+1) (xs.set (i+k) (N % 4294967296)) (N / 4294967296)∧N < 18446744073709551616:=by
 have hl:i+k < xs.length:=(by rw[h.len];exact hL);have hx:=ic (m / 4294967296 ^ i) (show 0 < 4294967296 by decide);have hy:=ic (n / 4294967296 ^ k) (show 0 < 4294967296 by decide);have hlt:=h.ok xs[i+k] (gU _);have Nc:=XB xs (i+k) hl (N % 4294967296);have o8:=afo hx hy hlt h.RA;rw[← hN]at o8;refine⟨⟨by rw[kD];exact h.len,Xx h.ok _ (ic _ ah),ae,?_,?_⟩,o8⟩
 ·rw[JM n k,← kE,e8 4294967296 (i+k),q8,← kE,← h.val];have hp:4294967296 ^ i*(m / 4294967296 ^ i % 4294967296)*(4294967296 ^ k*(n / 4294967296 ^ k % 4294967296))=4294967296 ^ (i+k)*(m / 4294967296 ^ i % 4294967296*(n / 4294967296 ^ k % 4294967296)):=by
   rw[Nat.pow_add,Nat.mul_mul_mul_comm]
  rw[hp];generalize 4294967296 ^ (i+k)=p at *;generalize m / 4294967296 ^ i % 4294967296*(n / 4294967296 ^ k % 4294967296)=xy at *;generalize xs[i+k]=l at *;have e1:=Nat.mod_add_div N 4294967296;have e2:p*(N % 4294967296)+N / 4294967296*(p*4294967296)=p*N:=by
   conv=>rhs;rw[← e1]
   rw[q8,Nat.mul_left_comm (N / 4294967296),e9 (N / 4294967296) 4294967296]
  have e3:p*N=p*xy+p*l+c*p:=(by rw[hN,q8,q8,e9 c p]);omega
 ·intro j hj uV;rw[kD]at hj;rw[List.getElem_set_ne ae];exact h.high j hj uV
theorem aoD {m n L i:Nat} {xs:List Nat} {c:Nat} (h:JN m n L i (aT n).length xs c) (hL:i+(aT n).length < L) :
  JO m n L (i+1) (xs.set (i+(aT n).length) c):=by
 have hl:i+(aT n).length < xs.length:=(by rw[h.len];exact hL);have Nc:=XB xs (i+(aT n).length) hl c;rw[h.high _ hl af,Nat.mul_zero,q7,e9 _ c,h.val,afm af]at Nc;refine⟨by rw[kD];exact h.len,Xx h.ok _ h.RA,?_,?_⟩
 ·rw[Nc,JM m i,th]
 ·intro j hj uV;rw[kD]at hj;rw[List.getElem_set_ne ae];exact h.high j hj ae
theorem aoE {m n L i J:Nat} {xs:List Nat} {c:Nat} (hJ:(aT n).length=J) (h:JN m n L i J xs c) (hL:i+J < L):JO m n L (i+1) (xs.set (i+J) c):=by
 subst hJ;exact aoD h hL
theorem XC (m n:Nat) (a b:Option Addr) (ca cb:Nat) (hm:(aT m).length≤100000) (hn:(aT n).length≤100000) (w:World) (hs:jL w a ca (aT m)) (ht:jL w b cb (aT n)) :
  Calls prog 205 #[.slice a (aT m).length ca,.slice b (aT n).length cb] w (z8 w (m*n)):=by
 have HS:=Qh hs;have HT:=Qh ht;clear hs ht;generalize hK:(aT m).length=K at *;generalize hJ:(aT n).length=J at *;have HK:=Qh hK;have HJ:=Qh hJ;clear hK hJ;go_enter func205,ntmps205
 go_wp2_with fail;go_loopw [5,6] (fun v i wr=>∃ k:Nat,i=.int .i64 (k:Nat)∧k≤K+J∧aG wr w.heap.size 36 1 xk v (List.replicate k 0)∧Below w.heap.size w wr) (fun _ i _=>K+J - (intOf i).toNat)
 case atStart=>exact⟨0,rfl,bV _,aG.nil _ _ _ _ _,aC _ _⟩
 case round=>
  obtain⟨k,rfl,hk,hown,hb⟩:=hrel;by_cases MZ:(k:Int) < (K:Int)+J
  ·go_wp2_with (at_builtin;go_loud (refine BK Ru (List.replicate k 0) 0 hown hb af cO ?_ (hone:=P5)))
   intro v' w2 rr hb2;clear hown hb;go_wp2_with fail;go_roundw;case rel=>exact⟨k+1,bL,ae,by rw[List.replicate_succ'];exact rr,hb2⟩
   case measure=>simp[intOf];omega
  ·obtain rfl:k=K+J:=by omega
   obtain⟨aq,cq,rfl,_⟩:=hown.shape;rw[rQ]at *;go_wp2_with fail;go_loopw [7] (fun i wr=>∃ (k:Nat) (xs:List Nat),i=.int .i64 (k:Nat)∧k≤K∧aG wr w.heap.size 36 1 xk (.slice aq (K+J) cq) xs∧JO m n (K+J) k xs∧Below w.heap.size w wr) (fun i _=>K - (intOf i).toNat)
   case atStart=>exact⟨0,List.replicate (K+J) 0,rfl,bV _,hown,aoz m n _,hb⟩
   case round=>
    clear hown hb;obtain⟨i,xs,rfl,hi,hown,hR,hb⟩:=hrel;have HR:=Qh hR;clear hR;by_cases hiK:(i:Int) < K
    ·have XD:i < K:=ae;go_wp2_with fail;go_loopw [8,9] (fun c x wr=>∃ (k cy:Nat) (xs:List Nat),x=.int .i64 (k:Nat)∧c=.int .u64 (cy:Nat)∧k≤J∧aG wr w.heap.size 36 1 xk (.slice aq (K+J) cq) xs∧JN m n (K+J) i k xs cy∧Below w.heap.size w wr) (fun _ x _=>J - (intOf x).toNat)
     case atStart=>exact⟨0,0,xs,rfl,rfl,bV _,hown,aoA HR.o,hb⟩
     case round=>
      clear hown hb HR xs;obtain⟨k,cy,xs,rfl,rfl,hk,hown,hS,hb⟩:=hrel;have qC:=Qh hS;clear hS;by_cases hkJ:(k:Int) < J
      ·have RB:k < J:=ae;have hlen:=qC.o.len;obtain⟨ga,oa,rfl,_,JP⟩:=jL.at (HS.o.keep hb af) (show i < (aT m).length by rw[HK.o];exact XD);obtain⟨gb,ob,rfl,_,hcb⟩:=jL.at (HT.o.keep hb af) (show k < (aT n).length by rw[HJ.o];exact RB);have RD:(aT m)[i]'(by rw[HK.o];exact XD)=m / 4294967296 ^ i % 4294967296:=by
        rw[← Ed,kC (by rw[HK.o];exact XD)];rfl
       have Dp:(aT n)[k]'(by rw[HJ.o];exact RB)=n / 4294967296 ^ k % 4294967296:=by
        rw[← Ed,kC (by rw[HJ.o];exact RB)];rfl
       rw[RD]at JP;rw[Dp]at hcb;clear RD Dp;obtain⟨g,cg,iQ,hgb,afb,Xv,hcm⟩:=hown.block Ir;rw[hlen]at iQ;simp only[Value.slice.injEq,true_and]at iQ;obtain⟨rfl,rfl⟩:=iQ;have hfr:=hown.free (i+k);obtain⟨_,_,hge,_,Ad⟩:=jL.at hown.sl.2 (show i+k < xs.length by omega);simp only[Option.some.injEq,Addr.mk.injEq,and_true]at hge;obtain⟨rfl,rfl⟩:=hge;rw[kF]at Ad;have hstep:=aoC qC.o (show i+k < K+J by omega) (show k < (aT n).length by rw[HJ.o];exact RB) _ rfl;have x1:=ic (m / 4294967296 ^ i) (show 0 < 4294967296 by decide);have x2:=ic (n / 4294967296 ^ k) (show 0 < 4294967296 by decide);have x3:=qC.o.ok xs[i+k] (gU _);have x4:=qC.o.RA;have x5:=afo x1 x2 x3 x4;have x6:=Nat.mul_le_mul (Nat.le_of_lt_succ x1) (Nat.le_of_lt_succ x2);have v1:((m / 4294967296 ^ i % 4294967296:Nat):Int)*((n / 4294967296 ^ k % 4294967296:Nat):Int)=((m / 4294967296 ^ i % 4294967296*(n / 4294967296 ^ k % 4294967296):Nat):Int):=aB;generalize m / 4294967296 ^ i % 4294967296*(n / 4294967296 ^ k % 4294967296)=p at *;generalize m / 4294967296 ^ i % 4294967296=x at *;generalize n / 4294967296 ^ k % 4294967296=y at *;generalize xs[i+k]=l at *;have e1:IntKind.u32.wrap ((p:Int)+(l:Int)+(cy:Int))=(((p+l+cy) % 4294967296:Nat):Int):=PD;have e2:((p:Int)+(l:Int)+(cy:Int)) / 4294967296=(((p+l+cy) / 4294967296:Nat):Int):=ae;have hlo:(p+l+cy) % 4294967296 < 4294967296:=ic _ ah;have i1:(p:Int)≤18446744065119617025:=ae;have i2:(p:Int)+l+cy≤18446744073709551615:=ae;have i3:(p:Int)+l≤18446744073709551615:=ae;have HST:=Qh hstep;clear hstep x5 x6;generalize (p+l+cy) % 4294967296=lo at *;generalize (p+l+cy) / 4294967296=hi at *;have tL:=Qh hlo;have jo:=Qh hown;clear hlo hown;go_wp2_with fail;go_quiet (fail)
       go_wp2_with fail;go_roundw;case rel=>exact⟨k+1,hi,xs.set (i+k) lo,bL,rfl,ae,aG.Qz (fun y:Nat=>.int .u32 (y:Nat)) (fun _=>rfl) (jo.o.keep (Go.below_drewN (aC _ _) _) af) lo ae,HST.o.1,(Go.below_drewN hb _).setCell cO _⟩
       case measure=>simp[intOf];omega
      ·obtain rfl:k=J:=by omega
       have hlen:=qC.o.len;obtain⟨g,cg,iQ,hgb,afb,Xv,hcm⟩:=hown.block Ir;rw[hlen]at iQ;simp only[Value.slice.injEq,true_and]at iQ;obtain⟨rfl,rfl⟩:=iQ;have hfr:=hown.free (i+k);obtain⟨_,_,hge,_,Ad⟩:=jL.at hown.sl.2 (show i+k < xs.length by omega);simp only[Option.some.injEq,Addr.mk.injEq,and_true]at hge;obtain⟨rfl,rfl⟩:=hge;rw[kF]at Ad;generalize xs[i+k]=l at *;have au0:=qC.o.RA;have hout:=aoE HJ.o qC.o ae;have aoF:=Qh hout;have jo:=Qh hown;clear hout hown;go_wp2_with fail;go_roundw;case rel=>exact⟨i+1,xs.set (i+k) cy,bL,ae,aG.Qz (fun y:Nat=>.int .u32 (y:Nat)) (fun _=>rfl) jo.o cy ae,aoF.o,hb.setCell cO _⟩
       case measure=>simp[intOf];omega
    ·obtain rfl:i=K:=by omega
     obtain⟨g,cg,iQ,uT⟩:=hown.shape;rw[HR.o.len]at iQ;simp only[Value.slice.injEq,true_and]at iQ;obtain⟨rfl,rfl⟩:=iQ;have ct:=MY xs HR.o.ok aq cq _ uT;rw[HR.o.len,aoB HR.o (Nat.le_of_eq HK.o)]at ct;have HF:=Qh (fun kk=>Xl hown kk);clear hown;go_wp2_with fail;refine ct.mono ?_;rintro e w1 ⟨kk,rfl,rN,rfl⟩;have Gn:=Qh rN;clear rN ct;go_wp2_with fail;go_ret;exact⟨_,rfl,Gn.o,HF.o _,hb⟩
end Go.Proofs.YtfflljgnpfldfaaGreatDoor
