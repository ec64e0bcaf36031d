/-
  The reference's natural numbers: contract of times.
-/
import Derived.Test.YtlacjhjckkablaaGreatDoorBaseD
import Derived.Test.YtlacjhjckkablaaGreatDoorRows
import Derived.Test.YtlacjhjckkablaaGreatDoorRatN
import Derived.BigQuiet
import Derived.Laws.IdiomStrings
import Derived.WalkLawsBesides
import Derived.Deep.CutBlock
import Derived.Deep.DeepCutAuto
import Derived.Test.YtlacjhjckkablaaGreatDoorCalm
import Derived.StillTailTactics
import Derived.WalkSmall
import Derived.Laws.BitsAllLaws
import Derived.Deep.LoopGhost
set_option maxHeartbeats 128000000
set_option linter.unusedVariables false
namespace Go.Proofs.YtlacjhjckkablaaGreatDoor
def digs (n:Nat):List Nat:=if h:n=0 then [] else n % 4294967296::digs (n / 4294967296)
termination_by n
decreasing_by exact Nat.div_lt_self (Nat.pos_of_ne_zero h) (by decide)
def valD:List Nat→Nat
 | []=>0
 | d::l=>d+4294967296*valD l
def okD (l:List Nat):Prop:=∀ d∈l,d < 4294967296
theorem digs_zero:digs 0=[]:=by unfold digs;rfl
theorem digs_pos {n:Nat} (h:n≠0):digs n=n % 4294967296::digs (n / 4294967296):=by
 conv=>lhs;unfold digs
 rw[dif_neg h]
theorem digs_nil {n:Nat}:digs n=[]↔n=0:=by
 by_cases h:n=0
 ·subst h;simp[digs_zero]
 ·rw[digs_pos h];simp[h]
theorem digs_ok (n:Nat):okD (digs n):=by
 induction n using Nat.strongRecOn with
 | _ n ih=>
  by_cases h:n=0
  ·subst h;rw[digs_zero];intro d hd;cases hd
  ·rw[digs_pos h];intro d hd;rcases List.mem_cons.1 hd with rfl|hd
   ·exact Nat.mod_lt _ (by decide)
   ·exact ih (n / 4294967296) (Nat.div_lt_self (Nat.pos_of_ne_zero h) (by decide)) d hd
theorem val_digs (n:Nat):valD (digs n)=n:=by
 induction n using Nat.strongRecOn with
 | _ n ih=>
  by_cases h:n=0
  ·subst h;rw[digs_zero];rfl
  ·rw[digs_pos h,valD,ih (n / 4294967296) (Nat.div_lt_self (Nat.pos_of_ne_zero h) (by decide))];exact Nat.mod_add_div _ _
theorem valD_app (l m:List Nat):valD (l++m)=valD l+4294967296 ^ l.length*valD m:=by
 induction l with
 | nil=>simp[valD]
 | cons d l ih=>rw[List.cons_append,valD,ih,valD,List.length_cons,Nat.pow_succ,Nat.mul_add,← Nat.add_assoc,← Nat.mul_assoc,Nat.mul_comm (4294967296 ^ _) 4294967296]
theorem valD_snoc (l:List Nat) (d:Nat):valD (l++[d])=valD l+4294967296 ^ l.length*d:=by rw[valD_app];simp[valD]
theorem valD_lt {l:List Nat} (h:okD l):valD l < 4294967296 ^ l.length:=by
 induction l with
 | nil=>simp[valD]
 | cons d l ih=>
  have h1:=h d (by simp);have h2:=ih (fun x hx=>h x (by simp[hx]));rw[valD,List.length_cons,Nat.pow_succ];omega
theorem okD_snoc {l:List Nat} {d:Nat} (h:okD l) (hd:d < 4294967296):okD (l++[d]):=fun x hx=>by
 rcases List.mem_append.1 hx with hx|hx
 ·exact h x hx
 ·rw[List.mem_singleton.1 hx];exact hd
theorem okD_take {l:List Nat} (h:okD l) (k:Nat):okD (l.take k):=fun x hx=>h x (List.mem_of_mem_take hx)
theorem okD_set {l:List Nat} (h:okD l) (k:Nat) {y:Nat} (hy:y < 4294967296):okD (l.set k y):=fun x hx=>by
 rcases List.mem_or_eq_of_mem_set hx with hx|rfl
 ·exact h x hx
 ·exact hy
theorem canon {l:List Nat} (h:okD l) (hl:∀ x,l.getLast? = some x→x≠0):digs (valD l)=l:=by
 induction l with
 | nil=>exact digs_zero
 | cons d l ih=>
  have h1:=h d (by simp);have h2:okD l:=fun x hx=>h x (by simp[hx])
  have h3:=ih h2 (fun x hx=>by
   cases l with
   | nil=>simp at hx
   | cons e l=>exact hl x (by rw[List.getLast?_cons_cons];exact hx))
  have h4:valD (d::l)≠0:=by
   intro h0;rw[valD]at h0;have hd:d=0:=(by omega);have hv:valD l=0:=(by omega);rw[hv,digs_zero]at h3;subst h3;exact hl d rfl hd
  rw[digs_pos h4,valD,Nat.add_mul_mod_self_left,Nat.mod_eq_of_lt h1,Nat.add_mul_div_left _ _ (by decide),Nat.div_eq_of_lt h1,Nat.zero_add,h3]
theorem digit_digs (n i:Nat):(digs n)[i]?.getD 0=n / 4294967296 ^ i % 4294967296:=by
 induction i generalizing n with
 | zero=>
  by_cases h:n=0
  ·subst h;simp[digs_zero]
  ·rw[digs_pos h];simp
 | succ i ih=>
  by_cases h:n=0
  ·subst h;simp[digs_zero]
  ·rw[digs_pos h,List.getElem?_cons_succ,ih,Nat.div_div_eq_div_mul,Nat.pow_succ,Nat.mul_comm 4294967296]
theorem digs_len (n k:Nat):(digs n).length≤k↔n < 4294967296 ^ k:=by
 constructor
 ·intro h;have h1:=valD_lt (digs_ok n);rw[val_digs]at h1;exact Nat.lt_of_lt_of_le h1 (Nat.pow_le_pow_right (by decide) h)
 ·intro h
  induction k generalizing n with
  | zero=>
   have:n=0:=by simpa using h
   subst this;simp[digs_zero]
  | succ k ih=>
   by_cases h0:n=0
   ·subst h0;simp[digs_zero]
   ·rw[digs_pos h0,List.length_cons];refine Nat.succ_le_succ (ih _ ?_);rw[Nat.pow_succ]at h;exact Nat.div_lt_of_lt_mul (by rw[Nat.mul_comm];exact h)
theorem pow_split (n k:Nat):n % 4294967296 ^ (k+1)=n % 4294967296 ^ k+4294967296 ^ k*(n / 4294967296 ^ k % 4294967296):=by
 rw[Nat.pow_succ,Nat.mod_mul]
theorem plus_step (a b k v c:Nat) (h:v+c*4294967296 ^ k=a % 4294967296 ^ k+b % 4294967296 ^ k) (n:Nat) (hn:n=a / 4294967296 ^ k % 4294967296+b / 4294967296 ^ k % 4294967296+c) :
  v+4294967296 ^ k*(n % 4294967296)+n / 4294967296*4294967296 ^ (k+1)=a % 4294967296 ^ (k+1)+b % 4294967296 ^ (k+1):=by
 rw[pow_split,pow_split,Nat.pow_succ];have e1:=Nat.mod_add_div n 4294967296;have e2:4294967296 ^ k*(n % 4294967296)+n / 4294967296*(4294967296 ^ k*4294967296)=4294967296 ^ k*n:=by
  conv=>rhs;rw[← e1]
  rw[Nat.mul_add,Nat.mul_left_comm (n / 4294967296),Nat.mul_comm (n / 4294967296) 4294967296]
 rw[Nat.add_assoc,e2,hn,Nat.mul_add,Nat.mul_add,Nat.mul_comm _ c];omega
theorem less_step (a b k v c:Nat) (h:v+b % 4294967296 ^ k=a % 4294967296 ^ k+c*4294967296 ^ k) (hc:c≤1) (n:Nat)
  (hn:n+b / 4294967296 ^ k % 4294967296+c=4294967296+a / 4294967296 ^ k % 4294967296) :
  v+4294967296 ^ k*(n % 4294967296)+b % 4294967296 ^ (k+1)=a % 4294967296 ^ (k+1)+(1 - n / 4294967296)*4294967296 ^ (k+1)∧1 - n / 4294967296≤1∧n / 4294967296≤1:=by
 have h1:=Nat.mod_lt (a / 4294967296 ^ k) (show 0 < 4294967296 by decide);have h2:=Nat.mod_lt (b / 4294967296 ^ k) (show 0 < 4294967296 by decide);have h3:n / 4294967296≤1:=(by omega);refine⟨?_,by omega,h3⟩;rw[pow_split,pow_split,Nat.pow_succ];generalize a / 4294967296 ^ k % 4294967296=x at *;generalize b / 4294967296 ^ k % 4294967296=y at *;generalize 4294967296 ^ k=p at *;have e1:=Nat.mod_add_div n 4294967296;have e3:p*n+p*y+p*c=p*4294967296+p*x:=(by rw[← Nat.mul_add,← Nat.mul_add,hn,Nat.mul_add]);have e4:p*n=p*(n % 4294967296)+p*4294967296*(n / 4294967296):=by
  conv=>lhs;rw[← e1]
  rw[Nat.mul_add,Nat.mul_assoc]
 rw[Nat.mul_comm c p]at h;have h5:n / 4294967296=0∨n / 4294967296=1:=(by omega);rcases h5 with h5|h5
 ·rw[h5]at e4 ⊢;omega
 ·rw[h5]at e4 ⊢;omega
theorem lt_pow_len {a k:Nat} (h:(digs a).length≤k):a % 4294967296 ^ k=a:=Nat.mod_eq_of_lt ((digs_len a k).1 h)
open Go.Proofs.Tryz
open Go.RowKit
def enW (d:Nat):List Value:=[.int .u32 (d:Int)]
theorem enW_len (d:Nat):(enW d).length=1:=rfl
theorem words_ty:SlTy prog 307 74 1 4:=SlTy.mk' (.int .u32 0) underlying307 (by kernel_rfl) rfl (by decide) (by decide)
abbrev SlD (w:World) (a:Option Addr) (cap:Nat) (l:List Nat):Prop:=SlOf w enW 1 a cap l
theorem SlD.at {w:World} {a:Option Addr} {cap:Nat} {l:List Nat} (h:SlD w a cap l) {k:Nat} (hk:k < l.length):∃ b o,a=some ⟨b,o,none⟩∧b < w.heap.size∧w.cell? ⟨b,o+k,none⟩=some (.int .u32 (l[k]:Nat)):=
 SlOf.cell1 h (fun x=>.int .u32 (x:Nat)) (fun _=>rfl) hk
def NatV (w:World) (v:Value) (n:Nat):Prop:=∃ a cap,v=.slice a (digs n).length cap∧SlD w a cap (digs n)
theorem NatV.keep {w w':World} {v:Value} {n:Nat} (h:NatV w v n) (hb:Below w.heap.size w w'):NatV w' v n:=by
 obtain⟨a,cap,e,hs⟩:=h;exact⟨a,cap,e,hs.keep hb lrf⟩
theorem natV_take {w:World} {a:Option Addr} {cap k n:Nat} {l:List Nat} (hs:SlD w a cap l) (hk:k≤l.length) (h:l.take k=digs n):NatV w (.slice a k cap) n:=by
 have h1:(digs n).length=k:=(by rw[← h,List.length_take,Nat.min_eq_left hk]);refine⟨a,cap,by rw[h1],?_⟩;rw[← h];refine SlOf.pre (ys:=l.drop k) ?_ enW_len;rw[List.take_append_drop];exact hs
def FreshV (B:Nat) (v:Value):Prop:=∀ a n c,v=.slice (some a) n c→B≤a.block
theorem fresh_of_owns {α:Type} {w:World} {base:Nat} {e:TypeId} {size:Nat} {en:α→List Value} {a:Option Addr} {n c:Nat} {xs:List α} (h:Owns w base e size en (.slice a n c) xs) (k:Nat):FreshV base (.slice a k c):=fun ad n' c' he=>by
 simp only[Value.slice.injEq]at he;obtain⟨rfl,_,_⟩:=he;exact(h.lt ad.block rfl).1
theorem fresh_lit {B g o k c:Nat} (h:B≤g):FreshV B (.slice (some ⟨g,o,none⟩) k c):=fun ad n' c' he=>by
 simp only[Value.slice.injEq,Option.some.injEq]at he;obtain⟨rfl,_,_⟩:=he;exact h
def RetNat (w:World) (n:Nat) (e:Ending) (w':World):Prop:=∃ v,e=.returned v∧NatV w' v n∧FreshV w.heap.size v∧Below w.heap.size w w'
def RetTrim (w:World) (a:Option Addr) (cap n:Nat) (e:Ending) (w':World):Prop:=∃ k,e=.returned (.slice a k cap)∧NatV w (.slice a k cap) n∧w' = w
theorem digit_any (l:List Nat) (hl:okD l) (a:Option Addr) (cap i:Nat) (hi:i < 4611686018427387904) (w:World) (hs:SlD w a cap l) :
  Calls prog 209 #[.slice a l.length cap,.int .i64 i] w fun e w'=>e=.returned (.int .u64 (l[i]?.getD 0:Nat))∧w' = w:=by
 have hlen:=hs.len;by_cases h:i < l.length
 ·obtain⟨b,o,rfl,hb,hc⟩:=hs.at h;have hd:=hl l[i] (List.getElem_mem h);have HR:=Qh (show l[i]?.getD 0=l[i]by rw[List.getElem?_eq_getElem h];rfl);rw[HR.out];have hlt:(i:Int) < l.length:=(by omega);have h1:(l.length:Int)≤9223372036854775807:=(by omega);generalize l[i]=x at *;clear HR;go_enter func209,ntmps209
  go_wp2
  go_ret;exact⟨rfl,rfl⟩
 ·have HR:=Qh (show l[i]?.getD 0=0 by rw[List.getElem?_eq_none (by omega)];rfl);rw[HR.out];have hlt:¬ (i:Int) < l.length:=(by omega);go_enter func209,ntmps209
  go_wp2
  go_ret;exact⟨rfl,rfl⟩
def TrimAt (l:List Nat) (k:Nat) (x:Value):Prop:=x=.int .i64 (k:Nat)∧k≤l.length∧valD (l.take k)=valD l
theorem trim_step {l:List Nat} {k:Nat} (h:valD (l.take (k+1))=valD l) (hk:k < l.length) (h0:l[k]=0):valD (l.take k)=valD l:=by
 rw[← h,List.take_succ_eq_append_getElem hk,valD_snoc,h0];simp
theorem trim_end {l:List Nat} (hl:okD l) {k:Nat} (h:valD (l.take k)=valD l) (hk:k≤l.length) (h0:∀ (hlt:0 < k),l[k - 1]'(by omega)≠0):l.take k=digs (valD l):=by
 rw[← h];refine(canon (okD_take hl k) fun x hx=>?_).symm;rcases Nat.eq_zero_or_pos k with rfl|hp
 ·simp at hx
 ·have:=h0 hp;rw[List.getLast?_eq_getElem?,List.length_take,Nat.min_eq_left hk,List.getElem?_take_of_lt (by omega),List.getElem?_eq_getElem (by omega)]at hx;simp only[Option.some.injEq]at hx;rw[← hx];exact this
theorem trim_any (l:List Nat) (hl:okD l) (a:Option Addr) (cap:Nat) (w:World) (hs:SlD w a cap l) :
  Calls prog 210 #[.slice a l.length cap] w (RetTrim w a cap (valD l)):=by
 have hlen:=hs.len;go_enter func210,ntmps210
 go_wp2_with fail;go_loop [3] (fun x=>∃ k,TrimAt l k x) (fun x=>(intOf x).toNat)
 case atStart=>exact⟨l.length,rfl,lrf,by rw[List.take_length]⟩
 case round=>
  obtain⟨k,rfl,hk,hv⟩:=hrel;have HV:=Qh hv;clear hv;rcases Nat.eq_zero_or_pos k with h0|h0
  ·subst h0;have HE:=Qh (trim_end hl HV.out hk (fun h=>by omega));go_wp2_with fail;go_ret;exact⟨_,rfl,natV_take hs hk HE.out,rfl⟩
  ·obtain⟨j,rfl⟩:∃ j,k=j+1:=⟨k - 1,by omega⟩
   obtain⟨b,o,rfl,hb,hc⟩:=hs.at (show j < l.length by omega);have hd:=hl l[j] (List.getElem_mem (by omega));have hj1:((j:Int)+1)≤l.length:=(by omega);have h1:(l.length:Int)≤9223372036854775807:=(by omega);have ej:((j+1:Nat):Int)=(j:Int)+1:=(by omega);by_cases hz:l[j]=0
   ·have HV2:=Qh (trim_step HV.out (by omega) hz);have hzb:((l[j]:Nat):Int)=0:=(by omega);rw[hzb]at hc;clear hd hz hzb;go_wp2_with fail;go_round
    case rel=>exact⟨j,rfl,by omega,HV2.out⟩
    case measure=>simp[intOf]
   ·have HE:=Qh (trim_end hl HV.out hk (fun h=>by simpa using hz));have hzb:(((l[j]:Nat):Int) == 0)=false:=(by rw[beq_eq_false_iff_ne];omega);go_wp2_with fail;go_ret;exact⟨_,rfl,natV_take hs hk HE.out,rfl⟩
theorem from_any (n:Nat) (hn:n < 18446744073709551616) (w:World) :
  Calls prog 182 #[.int .u64 n] w (RetNat w n):=by
 have e1:IntKind.u32.wrap (n:Int)=((n % 4294967296:Nat):Int):=(by unfold IntKind.wrap;simp[IntKind.bits,IntKind.signed]);have e2:(n:Int) / 4294967296=((n / 4294967296:Nat):Int):=(by omega);have hl:okD [n % 4294967296,n / 4294967296]:=by
  intro d hd;simp only[List.mem_cons,List.not_mem_nil,or_false]at hd;rcases hd with rfl|rfl<;>omega
 have hv:valD [n % 4294967296,n / 4294967296]=n:=(by simp only[valD];omega);have hd2:n / 4294967296 < 4294967296:=(by omega);have ct:=fun a cap w' hs=>trim_any [n % 4294967296,n / 4294967296] hl a cap w' hs
 rw[hv]at ct;clear hl hv;generalize n % 4294967296=d0 at *;generalize n / 4294967296=d1 at *;have i1:(n:Int)≤18446744073709551615:=(by omega);have i2:(d1:Int)≤4294967295:=(by omega);have hlit:SlD (w.alloc (.cells #[.int .u32 d0,.int .u32 d1] 74)) (some ⟨w.heap.size,0,none⟩) 2 [d0,d1]:=SlOf.lit w enW 1 enW_len [d0,d1] _ _ 2 rfl rfl (by decide);have HL:=Qh hlit;clear hn hd2 hlit;go_enter func182,ntmps182
 go_wp2_with fail;refine(ct _ _ _ HL.out).mono ?_;rintro e w1 ⟨k,rfl,hv,rfl⟩;have HV:=Qh hv;clear hv;go_wp2_with fail;go_ret;exact⟨.slice (some ⟨w.heap.size,0,none⟩) k 2,rfl,HV.out,fresh_lit lrf,(Below.refl w.heap.size w).alloc lrf _⟩
def heldI (a b:Nat):Int:=if a < b then -1 else if a=b then 0 else 1
theorem held_step {a b k:Nat} (h:a / 4294967296 ^ (k+1)=b / 4294967296 ^ (k+1)) :
  (a / 4294967296 ^ k % 4294967296 < b / 4294967296 ^ k % 4294967296→heldI a b = -1)∧(b / 4294967296 ^ k % 4294967296 < a / 4294967296 ^ k % 4294967296→heldI a b=1) ∧
  (a / 4294967296 ^ k % 4294967296=b / 4294967296 ^ k % 4294967296→a / 4294967296 ^ k=b / 4294967296 ^ k):=by
 have ea:a / 4294967296 ^ (k+1)=a / 4294967296 ^ k / 4294967296:=(by rw[Nat.pow_succ,← Nat.div_div_eq_div_mul]);have eb:b / 4294967296 ^ (k+1)=b / 4294967296 ^ k / 4294967296:=(by rw[Nat.pow_succ,← Nat.div_div_eq_div_mul]);rw[ea,eb]at h;have key:∀ x y:Nat,x / 4294967296 ^ k < y / 4294967296 ^ k→x < y:=fun x y hxy=>by
  rcases Nat.lt_or_ge x y with h1|h1
  ·exact h1
  ·exact absurd (Nat.div_le_div_right (c:=4294967296 ^ k) h1) (Nat.not_le_of_lt hxy)
 have k1:=key a b;have k2:=key b a;clear ea eb key;generalize a / 4294967296 ^ k=A at *;generalize b / 4294967296 ^ k=B at *;refine⟨fun hlt=>?_,fun hlt=>?_,fun he=>by omega⟩
 ·have:=k1 (by omega);unfold heldI;rw[if_pos this]
 ·have:=k2 (by omega);unfold heldI;rw[if_neg (by omega),if_neg (by omega)]
def HeldAt (a b:Nat) (k:Nat) (x:Value):Prop:=∃ j:Nat,x=.int .i64 ((j:Int) - 1)∧j≤k∧a / 4294967296 ^ j=b / 4294967296 ^ j
theorem div_pow_len {a k:Nat} (h:(digs a).length≤k):a / 4294967296 ^ k=0:=Nat.div_eq_of_lt ((digs_len a k).1 h)
theorem held_any (m n:Nat) (a b:Option Addr) (ca cb:Nat) (hm:(digs m).length≤1000000) (hn:(digs n).length≤1000000) (w:World) (hs:SlD w a ca (digs m)) (ht:SlD w b cb (digs n)) :
  Calls prog 235 #[.slice a (digs m).length ca,.slice b (digs n).length cb] w fun e w'=>e=.returned (.int .i64 (heldI m n))∧w' = w:=by
 have cd:=fun i hi=>digit_any (digs m) (digs_ok m) a ca i hi w hs
 have ce:=fun i hi=>digit_any (digs n) (digs_ok n) b cb i hi w ht
 simp only[digit_digs]at cd ce;obtain⟨K,hK⟩:∃ K:Nat,K=max (digs m).length (digs n).length:=⟨_,rfl⟩
 have hK1:(digs m).length≤K:=(by omega);have hK2:(digs n).length≤K:=(by omega);have HM:=Qh (div_pow_len hK1);have HN:=Qh (div_pow_len hK2);have HMX:=Qh hK;have hK3:K≤1000000:=(by omega);clear hK hK1 hK2;obtain⟨r,hr⟩:∃ r,r=heldI m n:=⟨_,rfl⟩
 rw[← hr];have HR:=Qh hr;clear hr;generalize (digs m).length=lm at *;generalize (digs n).length=ln at *;go_enter func235,ntmps235
 go_upto_region 1 with fail
 go_cut [5] (fun x wc=>x=.int .i64 ((K:Int) - 1)∧wc=w)
 case first=>
  by_cases hlt:(lm:Int) < ln
  ·have HE:=Qh (show(ln:Int) - 1=(K:Int) - 1 by have:=HMX.out;omega);go_wp2_with fail;go_meet
   case rel=>exact⟨by rw[HE.out],rfl⟩
  ·have HE:=Qh (show(lm:Int) - 1=(K:Int) - 1 by have:=HMX.out;omega);go_wp2_with fail;go_meet
   case rel=>exact⟨by rw[HE.out],rfl⟩
 case rest=>
  obtain⟨rfl,rfl⟩:=hcut;go_wp2_with fail;go_loop [5] (fun x=>HeldAt m n K x) (fun x=>(intOf x+1).toNat)
  case atStart=>exact⟨K,rfl,lrf,by rw[HM.out,HN.out]⟩
  case round=>
   obtain⟨j,rfl,hj,he⟩:=hrel;have HE:=Qh he;clear he;rcases Nat.eq_zero_or_pos j with h0|h0
   ·subst h0;have HZ:=Qh (show r=0 by have h:=HE.out;simp at h;rw[HR.out,h];unfold heldI;rw[if_neg (Nat.lt_irrefl _),if_pos rfl]);go_wp2_with fail;go_ret;exact⟨by rw[HZ.out];rfl,rfl⟩
   ·obtain⟨i,rfl⟩:∃ i,j=i+1:=⟨j - 1,by omega⟩
    obtain⟨s1,s2,s3⟩:=held_step HE.out;have S1:=Qh s1;have S2:=Qh s2;have S3:=Qh s3;have c1:=cd i (by omega);have c2:=ce i (by omega);have e1:((i+1:Nat):Int) - 1=(i:Int):=(by omega);rw[e1];have x1:=Nat.mod_lt (m / 4294967296 ^ i) (show 0 < 4294967296 by decide);have x2:=Nat.mod_lt (n / 4294967296 ^ i) (show 0 < 4294967296 by decide);clear s1 s2 s3 cd ce e1;generalize m / 4294967296 ^ i % 4294967296=x at *;generalize n / 4294967296 ^ i % 4294967296=y at *;rcases Nat.lt_trichotomy x y with h|h|h
    ·have HZ:=Qh (show r = -1 by rw[HR.out];exact S1.out h);have k1:(x:Int) < y:=(by omega);go_wp2_with fail;(with_reducible refine c1.mono ?_);rintro e w1 ⟨rfl,rfl⟩;go_wp2_with fail;(with_reducible refine c2.mono ?_);rintro e w1 ⟨rfl,rfl⟩;go_wp2_with fail;go_ret;exact⟨by rw[HZ.out];rfl,rfl⟩
    ·have S4:=Qh (S3.out h);clear S1 S2 S3;subst h;have k1:¬ (x:Int) < x:=(by omega);go_wp2_with fail;(with_reducible refine c1.mono ?_);rintro e w1 ⟨rfl,rfl⟩;go_wp2_with fail;(with_reducible refine c2.mono ?_);rintro e w1 ⟨rfl,rfl⟩;go_wp2_with fail;go_round
     case rel=>exact⟨i,rfl,by omega,S4.out⟩
     case measure=>simp[intOf]
    ·have HZ:=Qh (show r=1 by rw[HR.out];exact S2.out h);have k1:¬ (x:Int) < y:=(by omega);have k2:(y:Int) < x:=(by omega);go_wp2_with fail;(with_reducible refine c1.mono ?_);rintro e w1 ⟨rfl,rfl⟩;go_wp2_with fail;(with_reducible refine c2.mono ?_);rintro e w1 ⟨rfl,rfl⟩;go_wp2_with fail;go_ret;exact⟨by rw[HZ.out];rfl,rfl⟩
theorem word_val (n:Nat):(digs n)[0]?.getD 0+4294967296*((digs n)[1]?.getD 0)=n % 18446744073709551616:=by
 rw[digit_digs,digit_digs];simp only[Nat.pow_zero,Nat.div_one,Nat.pow_one];omega
theorem or_zero64 (x:Nat) (hx:x < 4294967296):bits .or .u64 0 (x:Int)=(x:Int):=by
 have h:=bits_or_u64_nat 0 x (by decide) (by omega);rw[Nat.zero_or]at h;exact h
theorem p32:(2:Nat) ^ 32=4294967296:=by decide +kernel
theorem or_words (x y:Nat) (hx:x < 4294967296) (hy:y < 4294967296):bits .or .u64 (x:Int) ((y:Int)*4294967296)=((x+4294967296*y:Nat):Int):=by
 have h:=bits_or_u64_nat x (y*4294967296) (by omega) (by omega);have e:=Nat.shiftLeft_add_eq_or_of_lt (i:=32) (b:=x) (by rw[p32];exact hx) y;rw[Nat.shiftLeft_eq,Nat.or_comm,p32]at e;rw[← e,Nat.add_comm,Nat.mul_comm y]at h;rw[← h,Int.natCast_mul,Int.mul_comm];rfl
theorem word_any (n:Nat) (a:Option Addr) (cap:Nat) (w:World) (hs:SlD w a cap (digs n)) :
  Calls prog 213 #[.slice a (digs n).length cap] w fun e w'=>
   e=.returned (.tuple #[.int .u64 (n % 18446744073709551616:Nat),.bool (decide (n < 18446744073709551616))])∧w' = w:=by
 have hv:=word_val n;have hd:=digs_ok n;have hlen:=hs.len;have hle:=digs_len n 2;obtain⟨r,hr⟩:∃ r,r=n % 18446744073709551616:=⟨_,rfl⟩
 obtain⟨b,hb⟩:∃ b,b=decide (n < 18446744073709551616):=⟨_,rfl⟩
 rw[← hr]at hv ⊢;rw[← hb];have hb2:b=decide ((digs n).length≤2):=by
  rw[hb,Bool.eq_iff_iff,decide_eq_true_eq,decide_eq_true_eq,hle]
 clear hr hb hle;generalize digs n=l at *
 match l,hs,hv,hd,hlen,hb2 with
 | [],hs,hv,hd,hlen,hb2=>
  have HV:=Qh hv;have HB:=Qh hb2;clear hv hb2;simp only[List.length_nil]at *;go_enter func213,ntmps213
  go_wp2_with fail;refine wp_loop_rounds 1 ?_;rw[rounds_succ];go_wp2_with fail;go_ret2
  exact⟨by rw[HB.out,← HV.out];rfl,rfl⟩
 | [x],hs,hv,hd,hlen,hb2=>
  have HV:=Qh hv;have HB:=Qh hb2;obtain⟨g,o,rfl,hg,hc⟩:=hs.at (show 0 < [x].length by simp);have hx:=hd x (by simp);simp only[List.length_singleton,List.getElem_singleton,Nat.add_zero]at *;clear hv hb2;go_enter func213,ntmps213
  go_wp2_with fail;refine wp_loop_rounds 2 ?_;rw[rounds_succ];have o1:=or_zero64 x hx;go_wp2_with fail;rw[rounds_succ];go_wp2_with fail;go_ret2
  exact⟨by rw[HB.out,← HV.out];rfl,rfl⟩
 | [x,y],hs,hv,hd,hlen,hb2=>
  have HV:=Qh hv;have HB:=Qh hb2;obtain⟨g,o,rfl,hg,hc⟩:=hs.at (show 0 < ([x,y]).length by simp);obtain⟨g2,o2,he,hg2,hc2⟩:=hs.at (show 1 < ([x,y]).length by simp);simp only[Option.some.injEq,Addr.mk.injEq,and_true]at he;obtain⟨rfl,rfl⟩:=he;have hx:=hd x (by simp);have hy:=hd y (by simp);have o1:=or_zero64 x hx;have o2:=or_words x y hx hy;have HR:=Qh (show x+4294967296*y=r from hv);rw[HR.out]at o2;simp only[List.length_cons,List.length_nil,List.getElem_cons_zero,List.getElem_cons_succ,Nat.add_zero]at *;clear hv hb2 hg2;go_enter func213,ntmps213
  go_wp2_with fail;refine wp_loop_rounds 3 ?_;rw[rounds_succ];go_wp2_with fail;rw[rounds_succ];go_wp2_with fail;rw[rounds_succ];go_wp2_with fail;go_ret2
  exact⟨by rw[HB.out];rfl,rfl⟩
 | x::y::z::l,hs,hv,hd,hlen,hb2=>
  have HV:=Qh hv;have HB:=Qh hb2;obtain⟨g,o,rfl,hg,hc⟩:=hs.at (show 0 < (x::y::z::l).length by simp);obtain⟨g2,o2,he,hg2,hc2⟩:=hs.at (show 1 < (x::y::z::l).length by simp);simp only[Option.some.injEq,Addr.mk.injEq,and_true]at he;obtain⟨rfl,rfl⟩:=he;have hx:=hd x (by simp);have hy:=hd y (by simp);have o1:=or_zero64 x hx;have o2:=or_words x y hx hy;have HR:=Qh (show x+4294967296*y=r from hv);rw[HR.out]at o2;simp only[List.length_cons,List.getElem_cons_zero,List.getElem_cons_succ,Nat.add_zero]at *;clear hv hb2 hg2;obtain⟨m,hm⟩:∃ m,m=l.length:=⟨_,rfl⟩
  rw[← hm]at *;have k1:(2:Int) < (m:Int)+1+1+1:=(by omega);have k2:¬ (m:Int)+1+1+1≤2:=(by omega);have k3:decide ((m:Int)+1+1+1≤2)=false:=decide_eq_false (by omega);clear hm;go_enter func213,ntmps213
  go_wp2_with fail;refine wp_loop_rounds 3 ?_;rw[rounds_succ];go_wp2_with fail;rw[rounds_succ];go_wp2_with fail;rw[rounds_succ];go_wp2_with fail;go_ret2
  exact⟨by rw[HB.out];rw[decide_eq_false (show ¬ l.length+1+1+1≤2 by omega)];rfl,rfl⟩
def BoolV (b:Bool) (x:Value):Prop:=x=.bool b
def PlusAt (m n K:Nat) (w wr:World) (v c i:Value):Prop:=∃ (k cy:Nat) (xs:List Nat),i=.int .i64 (k:Nat)∧k≤K+1∧c=.int .u64 (cy:Nat)∧cy≤1 ∧
 Owns wr w.heap.size 74 1 enW v xs∧xs.length=k∧okD xs∧valD xs+cy*4294967296 ^ k=m % 4294967296 ^ k+n % 4294967296 ^ k∧Below w.heap.size w wr
theorem plus_end {m n K v c:Nat} (hm:m < 4294967296 ^ K) (hn:n < 4294967296 ^ K) (h:v+c*4294967296 ^ (K+1)=m % 4294967296 ^ (K+1)+n % 4294967296 ^ (K+1)) (hc:c≤1):v=m+n:=by
 have hp:4294967296 ^ (K+1)=4294967296 ^ K*4294967296:=Nat.pow_succ ..;rw[Nat.mod_eq_of_lt (by omega),Nat.mod_eq_of_lt (by omega)]at h;have:c=0∨c=1:=by omega
 rcases this with rfl|rfl
 ·simpa using h
 ·omega
set_option maxRecDepth 100000 in theorem plus_any (m n : Nat) (a b : Option Addr) (ca cb : Nat) (hm : (digs m).length ≤ 1000000) (hn : (digs n).length ≤ 1000000) (w : World) (hs : SlD w a ca (digs m)) (ht : SlD w b cb (digs n)) :
  Calls prog 180 #[.slice a (digs m).length ca,.slice b (digs n).length cb] w (RetNat w (m+n)):=by
 obtain⟨K,hK⟩:∃ K:Nat,K=max (digs m).length (digs n).length:=⟨_,rfl⟩
 have hmK:m < 4294967296 ^ K:=(digs_len m K).1 (by omega);have hnK:n < 4294967296 ^ K:=(digs_len n K).1 (by omega);have hK3:K≤1000000:=(by omega);have HMX:=Qh hK;have HE:=Qh (And.intro hmK hnK);have HS:=Qh hs;have HT:=Qh ht;clear hK hmK hnK hs ht;have cd:=fun (i:Nat) (hi:i < 4611686018427387904) (wr:World) (h:Below w.heap.size w wr)=>digit_any (digs m) (digs_ok m) a ca i hi wr (HS.out.keep h lrf)
 have ce:=fun (i:Nat) (hi:i < 4611686018427387904) (wr:World) (h:Below w.heap.size w wr)=>digit_any (digs n) (digs_ok n) b cb i hi wr (HT.out.keep h lrf)
 simp only[digit_digs]at cd ce;generalize (digs m).length=lm at *;generalize (digs n).length=ln at *;go_enter func180,ntmps180
 go_wp2_with fail;go_loopw [5,6,7] (fun v c i wr=>PlusAt m n K w wr v c i) (fun _ _ i _=>K+1 - (intOf i).toNat)
 case atStart=>exact⟨0,0,[],rfl,Nat.zero_le _,rfl,Nat.zero_le _,Owns.nil _ _ _ _ _,rfl,(fun _ h=>absurd h List.not_mem_nil),by simp[valD,Nat.mod_one],Below.refl _ _⟩
 case round=>
  obtain⟨k,cy,xs,rfl,hk,rfl,hcy,hown,hlen,hok,hv,hb⟩:=hrel;have HV:=Qh hv;have HOK:=Qh hok;have HLEN:=Qh hlen;clear hv hok hlen;go_upto_region 4 with fail
  go_cut [15] (fun x wc=>BoolV (decide (k≤K)) x∧wc=wr)
  case first=>
   by_cases hlt:(lm:Int) < ln
   ·have HQ:=Qh (show decide ((k:Int)≤(ln:Int))=decide (k≤K)by rw[Bool.eq_iff_iff,decide_eq_true_eq,decide_eq_true_eq];have:=HMX.out;omega);go_wp2_with fail;go_meet
    case rel=>exact⟨by rw[← HQ.out];simp[BoolV],rfl⟩
   ·have HQ:=Qh (show decide ((k:Int)≤(lm:Int))=decide (k≤K)by rw[Bool.eq_iff_iff,decide_eq_true_eq,decide_eq_true_eq];have:=HMX.out;omega);go_wp2_with fail;go_meet
    case rel=>exact⟨by rw[← HQ.out];simp[BoolV],rfl⟩
  case rest=>
   obtain⟨hx,rfl⟩:=hcut;unfold BoolV at hx;by_cases hkK:k≤K
   ·rw[decide_eq_true hkK]at hx;subst hx;have c1:=cd k (by omega) _ hb;have c2:=ce k (by omega) _ hb;have x1:=Nat.mod_lt (m / 4294967296 ^ k) (show 0 < 4294967296 by decide);have x2:=Nat.mod_lt (n / 4294967296 ^ k) (show 0 < 4294967296 by decide);have HST:=Qh (plus_step m n k (valD xs) cy HV.out _ rfl);clear cd ce;generalize m / 4294967296 ^ k % 4294967296=x at *;generalize n / 4294967296 ^ k % 4294967296=y at *;have e1:IntKind.u32.wrap ((x:Int)+(y:Int)+(cy:Int))=(((x+y+cy) % 4294967296:Nat):Int):=(by unfold IntKind.wrap;simp[IntKind.bits,IntKind.signed]);have e2:((x:Int)+(y:Int)+(cy:Int)) / 4294967296=(((x+y+cy) / 4294967296:Nat):Int):=(by omega);have hlo:(x+y+cy) % 4294967296 < 4294967296:=(by omega);have hhi:(x+y+cy) / 4294967296≤1:=(by omega);generalize (x+y+cy) % 4294967296=lo at *;generalize (x+y+cy) / 4294967296=hi at *;have HLO:=Qh hlo;clear hlo;go_wp2_with fail;(with_reducible refine c1.mono ?_);rintro e w1 ⟨rfl,rfl⟩;go_wp2_with fail;(with_reducible refine c2.mono ?_);rintro e w1 ⟨rfl,rfl⟩;clear c1 c2;go_wp2_with (at_builtin;go_loud (refine wpList_append_elem words_ty xs lo hown hb lrf (by have:=HLEN.out;omega) ?_ (hone:=by simp[enW,Value.oneCell'])))
    intro v' w2 hown2 hb2;clear hown hb;go_wp2_with fail;go_roundw;case rel=>exact⟨k+1,hi,xs++[lo],by go_num,by omega,rfl,hhi,hown2,by rw[List.length_append,HLEN.out];rfl,okD_snoc HOK.out HLO.out,by rw[valD_snoc,HLEN.out];exact HST.out,hb2⟩
    case measure=>simp[intOf];omega
   ·rw[decide_eq_false hkK]at hx;subst hx;have hkk:k=K+1:=(by omega);subst hkk;have HSUM:=Qh (plus_end HE.out.1 HE.out.2 HV.out hcy);obtain⟨g,cg,rfl,hsx⟩:=hown.shape;have ct:=trim_any xs HOK.out g cg _ hsx;rw[HSUM.out]at ct;have HF:=Qh (fun kk=>fresh_of_owns hown kk);clear hown cd ce;go_wp2_with fail;refine ct.mono ?_;rintro e w1 ⟨kk,rfl,hnv,rfl⟩;have HNV:=Qh hnv;clear hnv ct;go_wp2_with fail;go_ret;exact⟨_,rfl,HNV.out,HF.out _,hb⟩
def LessAt (m n K:Nat) (w wr:World) (v c i:Value):Prop:=∃ (k cy:Nat) (xs:List Nat),i=.int .i64 (k:Nat)∧k≤K∧c=.int .u64 (cy:Nat)∧cy≤1 ∧
 Owns wr w.heap.size 74 1 enW v xs∧xs.length=k∧okD xs∧valD xs+n % 4294967296 ^ k=m % 4294967296 ^ k+cy*4294967296 ^ k∧Below w.heap.size w wr
theorem less_end {m n K v c:Nat} (hm:m < 4294967296 ^ K) (hnm:n≤m) (hv:v < 4294967296 ^ K) (h:v+n % 4294967296 ^ K=m % 4294967296 ^ K+c*4294967296 ^ K) (hc:c≤1):v=m - n:=by
 rw[Nat.mod_eq_of_lt (by omega),Nat.mod_eq_of_lt hm]at h;have:c=0∨c=1:=by omega
 rcases this with rfl|rfl<;>omega
set_option maxRecDepth 100000 in theorem less_any (m n : Nat) (hnm : n ≤ m) (a b : Option Addr) (ca cb : Nat) (hm : (digs m).length ≤ 1000000) (w : World) (hs : SlD w a ca (digs m)) (ht : SlD w b cb (digs n)) :
  Calls prog 236 #[.slice a (digs m).length ca,.slice b (digs n).length cb] w (RetNat w (m - n)):=by
 have hmK:m < 4294967296 ^ (digs m).length:=(digs_len m _).1 lrf;have HE:=Qh (And.intro hmK hnm);have HS:=Qh hs;have HT:=Qh ht;clear hmK hs ht hnm;have cd:=fun (i:Nat) (hi:i < 4611686018427387904) (wr:World) (h:Below w.heap.size w wr)=>digit_any (digs m) (digs_ok m) a ca i hi wr (HS.out.keep h lrf)
 have ce:=fun (i:Nat) (hi:i < 4611686018427387904) (wr:World) (h:Below w.heap.size w wr)=>digit_any (digs n) (digs_ok n) b cb i hi wr (HT.out.keep h lrf)
 simp only[digit_digs]at cd ce;generalize (digs m).length=K at *;generalize (digs n).length=ln at *;go_enter func236,ntmps236
 go_wp2_with fail;go_loopw [5,6,7] (fun v c i wr=>LessAt m n K w wr v c i) (fun _ _ i _=>K - (intOf i).toNat)
 case atStart=>exact⟨0,0,[],rfl,Nat.zero_le _,rfl,Nat.zero_le _,Owns.nil _ _ _ _ _,rfl,(fun _ h=>absurd h List.not_mem_nil),by simp[valD,Nat.mod_one],Below.refl _ _⟩
 case round=>
  obtain⟨k,cy,xs,rfl,hk,rfl,hcy,hown,hlen,hok,hv,hb⟩:=hrel;have HV:=Qh hv;have HOK:=Qh hok;have HLEN:=Qh hlen;clear hv hok hlen;by_cases hkK:(k:Int) < K
  ·have c1:=cd k (by omega) _ hb;have c2:=ce k (by omega) _ hb;have x1:=Nat.mod_lt (m / 4294967296 ^ k) (show 0 < 4294967296 by decide);have x2:=Nat.mod_lt (n / 4294967296 ^ k) (show 0 < 4294967296 by decide);have hst:=less_step m n k (valD xs) cy HV.out hcy (4294967296+m / 4294967296 ^ k % 4294967296 - n / 4294967296 ^ k % 4294967296 - cy) (by omega);have HST:=Qh hst;clear cd ce hst;generalize m / 4294967296 ^ k % 4294967296=x at *;generalize n / 4294967296 ^ k % 4294967296=y at *;have en:(4294967296:Int)+(x:Int) - (y:Int) - (cy:Int)=((4294967296+x - y - cy:Nat):Int):=(by omega);have hnn:4294967296+x - y - cy < 8589934592:=(by omega);generalize 4294967296+x - y - cy=nn at *;have e1:IntKind.u32.wrap (nn:Int)=((nn % 4294967296:Nat):Int):=(by unfold IntKind.wrap;simp[IntKind.bits,IntKind.signed]);have e2:(nn:Int) / 4294967296=((nn / 4294967296:Nat):Int):=(by omega);have hlo:nn % 4294967296 < 4294967296:=(by omega);have hhi:nn / 4294967296≤1:=(by omega);have e3:(1:Int) - ((nn / 4294967296:Nat):Int)=((1 - nn / 4294967296:Nat):Int):=(by omega);generalize nn % 4294967296=lo at *;generalize nn / 4294967296=hi at *;have hcy2:1 - hi≤1:=(by omega);generalize 1 - hi=cy2 at *;have HLO:=Qh hlo;clear hlo;go_wp2_with fail;(with_reducible refine c1.mono ?_);rintro e w1 ⟨rfl,rfl⟩;go_wp2_with fail;(with_reducible refine c2.mono ?_);rintro e w1 ⟨rfl,rfl⟩;clear c1 c2;go_wp2_with (at_builtin;go_loud (refine wpList_append_elem words_ty xs lo hown hb lrf (by have:=HLEN.out;omega) ?_ (hone:=by simp[enW,Value.oneCell'])))
   intro v' w2 hown2 hb2;clear hown hb;go_wp2_with fail;go_roundw;case rel=>exact⟨k+1,cy2,xs++[lo],by go_num,by omega,rfl,hcy2,hown2,by rw[List.length_append,HLEN.out];rfl,okD_snoc HOK.out HLO.out,by rw[valD_snoc,HLEN.out];exact HST.out.1,hb2⟩
   case measure=>simp[intOf];omega
  ·have hkk:k=K:=(by omega);subst hkk;have HSUM:=Qh (less_end HE.out.1 HE.out.2 (by have:=valD_lt HOK.out;rwa [HLEN.out]at this) HV.out hcy);obtain⟨g,cg,rfl,hsx⟩:=hown.shape;have ct:=trim_any xs HOK.out g cg _ hsx;rw[HSUM.out]at ct;have HF:=Qh (fun kk=>fresh_of_owns hown kk);clear hown cd ce;go_wp2_with fail;refine ct.mono ?_;rintro e w1 ⟨kk,rfl,hnv,rfl⟩;have HNV:=Qh hnv;clear hnv ct;go_wp2_with fail;go_ret;exact⟨_,rfl,HNV.out,HF.out _,hb⟩
theorem p32':(2:Nat) ^ 32=4294967296:=by decide +kernel
theorem powB (j:Nat):4294967296 ^ j=2 ^ (32*j):=by rw[Nat.pow_mul,p32']
theorem digit_val {l:List Nat} (hl:okD l) (j:Nat) (hj:j < l.length):l[j]=valD l / 4294967296 ^ j % 4294967296:=by
 induction l generalizing j with
 | nil=>simp at hj
 | cons d l ih=>
  have h1:=hl d (by simp);cases j with
  | zero=>rw[List.getElem_cons_zero,valD,Nat.pow_zero,Nat.div_one];omega
  | succ j=>
   rw[List.getElem_cons_succ,ih (fun x hx=>hl x (by simp[hx])) j (by simpa using hj),valD,Nat.pow_succ,Nat.mul_comm (4294967296 ^ j),← Nat.div_div_eq_div_mul]
   congr 2
   omega
theorem valD_set (l:List Nat) (j:Nat) (hj:j < l.length) (y:Nat):valD (l.set j y)+4294967296 ^ j*l[j]=valD l+4294967296 ^ j*y:=by
 induction l generalizing j with
 | nil=>simp at hj
 | cons d l ih=>
  cases j with
  | zero=>simp[valD];omega
  | succ j=>
   have:=ih j (by simpa using hj);rw[List.set_cons_succ,valD,valD,List.getElem_cons_succ,Nat.pow_succ,Nat.mul_comm (4294967296 ^ j),Nat.mul_assoc,Nat.mul_assoc];omega
theorem bit_val (m i:Nat):m / 4294967296 ^ (i / 32) % 4294967296 / 2 ^ (i % 32) % 2=m / 2 ^ i % 2:=by
 have hs:i % 32 < 32:=Nat.mod_lt _ (by decide);have e:i=32*(i / 32)+i % 32:=(Nat.div_add_mod i 32).symm;have e1:m / 2 ^ i=m / 4294967296 ^ (i / 32) / 2 ^ (i % 32):=by
  conv=>lhs;rw[e]
  rw[powB,Nat.pow_add,Nat.div_div_eq_div_mul]
 rw[e1];generalize m / 4294967296 ^ (i / 32)=x;generalize i % 32=s at *;have e2:(4294967296:Nat)=2 ^ s*2 ^ (32 - s):=(by rw[← Nat.pow_add,show s+(32 - s)=32 by omega,p32']);rw[e2,Nat.mod_mul_right_div_self];have e3:(2:Nat) ^ (32 - s)=2*2 ^ (31 - s):=(by rw[show 32 - s=(31 - s)+1 by omega,Nat.pow_succ,Nat.mul_comm]);rw[e3,Nat.mod_mul_right_mod]
theorem or_bit {x s:Nat} (h:2 ^ (s+1) ∣ x):x ||| 2 ^ s=x+2 ^ s:=by
 obtain⟨c,rfl⟩:=h;have:=Nat.shiftLeft_add_eq_or_of_lt (i:=s+1) (b:=2 ^ s) (Nat.pow_lt_pow_right (by decide) (by omega)) c;rw[Nat.shiftLeft_eq,Nat.mul_comm]at this;exact this.symm
theorem digit_low {v i Q:Nat} (hv:v=2 ^ (i+1)*Q):2 ^ (i % 32+1) ∣ v / 4294967296 ^ (i / 32) % 4294967296:=by
 have hs:i % 32 < 32:=Nat.mod_lt _ (by decide);have e:i+1=32*(i / 32)+(i % 32+1):=(by have:=Nat.div_add_mod i 32;omega);have e3:2 ^ (32*(i / 32)+(i % 32+1))=4294967296 ^ (i / 32)*2 ^ (i % 32+1):=(by rw[Nat.pow_add 2 (32*(i / 32)),← powB]);rw[hv,e,e3,Nat.mul_assoc,Nat.mul_div_cancel_left _ (Nat.pow_pos (by decide))];generalize i % 32=s at *;have e2:(4294967296:Nat)=2 ^ (s+1)*2 ^ (31 - s):=(by rw[← Nat.pow_add,show s+1+(31 - s)=32 by omega,p32']);rw[e2,Nat.mul_mod_mul_left];exact⟨_,rfl⟩
structure DivS (m n i v r:Nat):Prop where
 lt:r < n
 ex:∃ Q,v=2 ^ i*Q∧Q*n+r=m / 2 ^ i
theorem div_bit {m i:Nat}:m / 2 ^ i=2*(m / 2 ^ (i+1))+m / 2 ^ i % 2:=by
 rw[Nat.pow_succ,← Nat.div_div_eq_div_mul];omega
theorem divS_no {m n i v r:Nat} (h:DivS m n (i+1) v r) (hlt:r+r+m / 2 ^ i % 2 < n):DivS m n i v (r+r+m / 2 ^ i % 2):=by
 obtain⟨h1,Q,h2,h3⟩:=h;refine⟨hlt,2*Q,by rw[h2,Nat.pow_succ,Nat.mul_assoc],?_⟩
 conv=>rhs;rw[div_bit,← h3]
 rw[Nat.mul_assoc];omega
theorem divS_yes {m n i v r:Nat} (h:DivS m n (i+1) v r) (hge:n≤r+r+m / 2 ^ i % 2):DivS m n i (v+2 ^ i) (r+r+m / 2 ^ i % 2 - n):=by
 obtain⟨h1,Q,h2,h3⟩:=h;have hb:m / 2 ^ i % 2 < 2:=Nat.mod_lt _ (by decide);refine⟨by omega,2*Q+1,by rw[h2,Nat.pow_succ,Nat.mul_add,Nat.mul_assoc,Nat.mul_one],?_⟩
 conv=>rhs;rw[div_bit,← h3]
 rw[Nat.add_mul,Nat.mul_assoc];omega
theorem divS_end {m n v r:Nat} (h:DivS m n 0 v r):v=m / n∧r=m % n:=by
 obtain⟨h1,Q,h2,h3⟩:=h;rw[Nat.pow_zero,Nat.div_one]at h3;rw[Nat.pow_zero,Nat.one_mul]at h2;subst h2;rw[← h3,Nat.mul_comm,Nat.mul_add_div (by omega),Nat.div_eq_of_lt h1,Nat.mul_add_mod,Nat.mod_eq_of_lt h1];exact⟨rfl,rfl⟩
theorem divS_start (m n K:Nat) (hm:m < 4294967296 ^ K) (hn:0 < n):DivS m n (32*K) 0 0:=
 ⟨hn,0,by simp,by rw[← powB,Nat.div_eq_of_lt hm];simp⟩
theorem valD_zeros (k:Nat):valD (List.replicate k 0)=0:=by
 induction k with
 | zero=>rfl
 | succ k ih=>rw[List.replicate_succ,valD,ih]
theorem bit_put {xs:List Nat} (hok:okD xs) {m n i r q s:Nat} (h:DivS m n (i+1) (valD xs) r) (hq:q=i / 32) (hs:s=i % 32) (hql:q < xs.length) :
  ∃ x,xs[q]=x∧x < 4294967296∧x ||| 2 ^ s=x+2 ^ s∧2 ^ s < 4294967296∧x+2 ^ s < 4294967296∧valD (xs.set q (x+2 ^ s))=valD xs+2 ^ i:=by
 have hs32:s < 32:=(by omega);have hxd:=digit_val hok q hql;have hxl:=hok xs[q] (List.getElem_mem _);have hset:=fun y=>valD_set xs q hql y
 have hlow:2 ^ (s+1) ∣ xs[q]:=by
  obtain⟨Q,hQ1,_⟩:=h.ex;rw[hxd,hq,hs];exact digit_low hQ1
 clear hxd;generalize xs[q]=x at *;refine⟨x,rfl,hxl,or_bit hlow,?_,?_,?_⟩
 ·rw[← p32'];exact Nat.pow_lt_pow_right (by decide) hs32
 ·obtain⟨c,hc⟩:=hlow;have e2:(4294967296:Nat)=2 ^ (s+1)*2 ^ (31 - s):=(by rw[← Nat.pow_add,show s+1+(31 - s)=32 by omega,p32']);have hc2:c < 2 ^ (31 - s):=by
   rw[hc,e2]at hxl;exact Nat.lt_of_mul_lt_mul_left hxl
  have h3:=Nat.mul_le_mul_left (2 ^ (s+1)) (show c+1≤2 ^ (31 - s)from hc2);rw[← e2,Nat.mul_add,← hc,Nat.mul_one,Nat.pow_succ]at h3;have hp:0 < 2 ^ s:=Nat.pow_pos (by decide);omega
 ·have e:4294967296 ^ q*2 ^ s=2 ^ i:=(by rw[powB,← Nat.pow_add,hq,hs,Nat.div_add_mod]);have h4:=hset (x+2 ^ s);rw[Nat.mul_add,e]at h4;omega
def ApartV (v u:Value):Prop:=∀ ad n c,v=.slice (some ad) n c→∀ bd n' c',u=.slice (some bd) n' c'→ad.block≠bd.block
def BelowV (B:Nat) (u:Value):Prop:=∀ bd n c,u=.slice (some bd) n c→bd.block < B
theorem belowV_of_owns {α:Type} {w:World} {base:Nat} {e:TypeId} {size:Nat} {en:α→List Value} {v:Value} {xs:List α} (h:Owns w base e size en v xs):BelowV w.heap.size v:=fun bd n c he=>by
 subst he;exact(h.lt bd.block rfl).2
theorem apart_of {B B':Nat} {v u:Value} (h:FreshV B v) (h2:BelowV B' u) (hB:B'≤B):ApartV v u:=fun ad n c e1 bd n' c' e2=>by
 have:=h ad n c e1;have:=h2 bd n' c' e2;omega
theorem natV_set {w:World} {v:Value} {n:Nat} (h:NatV w v n) {g q len cap:Nat} {u:Value} (ha:ApartV v (.slice (some ⟨g,0,none⟩) len cap)):NatV (w.setCell ⟨g,q,none⟩ u) v n:=by
 obtain⟨a,c,rfl,hs⟩:=h;refine⟨a,c,rfl,hs.of_block fun b o e=>?_⟩;subst e;exact Below.heap_setCell w _ u b (ha _ _ _ rfl ⟨g,0,none⟩ _ _ rfl)
def DivAt (m n K:Nat) (w wr:World) (vq vr i:Value):Prop:=∃ (j r:Nat) (xs:List Nat),i=.int .i64 ((j:Int) - 1)∧j≤32*K∧Owns wr w.heap.size 74 1 enW vq xs∧xs.length=K∧okD xs ∧
 DivS m n j (valD xs) r∧NatV wr vr r∧ApartV vr vq∧Below w.heap.size w wr
def RetTwo (w:World) (q r:Nat) (e:Ending) (w':World):Prop:=∃ v u,e=.returned (.tuple #[v,u])∧NatV w' v q∧NatV w' u r∧Below w.heap.size w w'
theorem natV_nil (w:World):NatV w (.slice none 0 0) 0:=⟨none,0,by rw[digs_zero];rfl,by rw[digs_zero];exact SlOf.nil _ _ _⟩
theorem wrap32N (a:Nat) (h:a < 4294967296):IntKind.u32.wrap (a:Int)=(a:Int):=by unfold IntKind.wrap;simp[IntKind.bits,IntKind.signed];omega
theorem and_one_nat (x:Nat) (h:x < 4294967296):bits .and .u64 (x:Int) 1=((x % 2:Nat):Int):=by
 rw[and_one_u64 _ (by omega) (by omega)];omega
set_option maxRecDepth 100000 in theorem divided_any (m n : Nat) (hn0 : 0 < n) (a b : Option Addr) (ca cb : Nat) (hm : (digs m).length ≤ 100000) (hn : (digs n).length ≤ 100000) (w : World) (hs : SlD w a ca (digs m)) (ht : SlD w b cb (digs n)) :
  Calls prog 212 #[.slice a (digs m).length ca,.slice b (digs n).length cb] w (RetTwo w (m / n) (m % n)):=by
 have hmK:m < 4294967296 ^ (digs m).length:=(digs_len m _).1 lrf;have HST:=Qh (divS_start m n _ hmK hn0);have HS:=Qh hs;have HT:=Qh ht;clear hmK hs ht;generalize hK:(digs m).length=K at *;have HK:=Qh hK;clear hK;go_enter func212,ntmps212
 go_wp2_with fail;go_loopw [6,7] (fun v i wr=>∃ k:Nat,i=.int .i64 (k:Nat)∧k≤K∧Owns wr w.heap.size 74 1 enW v (List.replicate k 0)∧Below w.heap.size w wr) (fun _ i _=>K - (intOf i).toNat)
 case atStart=>exact⟨0,rfl,Nat.zero_le _,Owns.nil _ _ _ _ _,Below.refl _ _⟩
 case round=>
  obtain⟨k,rfl,hk,hown,hb⟩:=hrel;by_cases hkK:(k:Int) < K
  ·go_wp2_with (at_builtin;go_loud (refine wpList_append_elem words_ty (List.replicate k 0) 0 hown hb lrf (by simp;omega) ?_ (hone:=by simp[enW,Value.oneCell'])))
   intro v' w2 hown2 hb2;clear hown hb;go_wp2_with fail;go_roundw;case rel=>exact⟨k+1,by go_num,by omega,by rw[List.replicate_succ'];exact hown2,hb2⟩
   case measure=>simp[intOf];omega
  ·obtain rfl:k=K:=by omega
   obtain⟨aq,cq,rfl,_⟩:=hown.shape;rw[List.length_replicate]at *;go_wp2_with fail;go_loopw [8,9] (fun vr i wr=>DivAt m n k w wr (.slice aq k cq) vr i) (fun _ i _=>(intOf i+1).toNat)
   case atStart=>exact⟨32*k,0,List.replicate k 0,by go_num,lrf,hown,List.length_replicate,(fun x hx=>by rw[(List.mem_replicate.1 hx).2];decide),by rw[valD_zeros];exact HST.out,natV_nil _,(fun ad n' c' he=>by simp at he),hb⟩
   case round=>
    clear hown hb;obtain⟨j,r,xs,rfl,hj,hown,hlen,hok,hd,hr,hap,hb⟩:=hrel;rcases Nat.eq_zero_or_pos j with h0|h0
    ·subst h0;obtain⟨e1,e2⟩:=divS_end hd;obtain⟨g,cg,hsl,hsx⟩:=hown.shape;rw[hlen]at hsl;simp only[Value.slice.injEq,true_and]at hsl;obtain⟨rfl,rfl⟩:=hsl;have ct:=trim_any xs hok aq cq _ hsx;rw[hlen]at ct;have HE:=Qh (And.intro e1 e2);have HR:=Qh hr;clear hd hown hr e1 e2;go_wp2_with fail;refine ct.mono ?_;rintro e w1 ⟨kk,rfl,hnv,rfl⟩;have HNV:=Qh hnv;clear hnv ct;go_wp2_with fail;go_ret2
     exact⟨_,_,rfl,by rw[← HE.out.1];exact HNV.out,by rw[← HE.out.2];exact HR.out,hb⟩
    ·obtain⟨i,rfl⟩:∃ i,j=i+1:=⟨j - 1,by omega⟩
     have e0:((i+1:Nat):Int) - 1=(i:Int):=(by omega);rw[e0];obtain⟨q,hq⟩:∃ q,q=i / 32:=⟨_,rfl⟩
     obtain⟨s,hs⟩:∃ s,s=i % 32:=⟨_,rfl⟩
     have hqk:q < k:=(by omega);have hs32:s < 32:=(by omega);have r2:(i:Int) / 32=(q:Int):=(by omega);have r3:(i:Int) % 32=(s:Int):=(by omega);obtain⟨ga,oa,rfl,_,hc⟩:=SlD.at (HS.out.keep hb lrf) (show q < (digs m).length by rw[HK.out];exact hqk);have hdg:(digs m)[q]'(by rw[HK.out];exact hqk)=m / 4294967296 ^ q % 4294967296:=by
      rw[← digit_digs,List.getElem?_eq_getElem (by rw[HK.out];exact hqk)];rfl
     rw[hdg]at hc;have hbit:=bit_val m i;rw[← hq,← hs]at hbit;have hdl:m / 4294967296 ^ q % 4294967296 < 4294967296:=Nat.mod_lt _ (by decide);clear hdg;generalize m / 4294967296 ^ q % 4294967296=d at *;have r4:(d:Int) / 2 ^ s=((d / 2 ^ s:Nat):Int):=(by rw[Int.natCast_ediv];simp);have hds:d / 2 ^ s≤d:=Nat.div_le_self _ _;have r5:bits .and .u64 ((d / 2 ^ s:Nat):Int) 1=((m / 2 ^ i % 2:Nat):Int):=by
      rw[and_one_nat _ (Nat.lt_of_le_of_lt hds hdl),hbit]
     have hb2:m / 2 ^ i % 2 < 2:=Nat.mod_lt _ (by decide);have HQ:=Qh (And.intro hq hs);have HD:=Qh hd;have hrn:=hd.lt;clear hbit hq hs hd;generalize d / 2 ^ s=ds at *;generalize hbb:m / 2 ^ i % 2=bit at *;have HBB:=Qh hbb;have i1:(ds:Int)≤4294967295:=(by omega);clear hbb hdl hds;obtain⟨ar,cr,rfl,hsr⟩:=hr;have hnL:n < 4294967296 ^ (digs n).length:=(digs_len n _).1 lrf;have hrL:(digs r).length≤(digs n).length:=(digs_len r _).2 (by omega);have hrrL:(digs (r+r)).length≤(digs n).length+1:=(digs_len _ _).2 (by rw[Nat.pow_succ];omega);have hbL:(digs bit).length≤1:=(digs_len _ _).2 (by rw[Nat.pow_one];omega);have hRL:(digs (r+r+bit)).length≤(digs n).length+1:=(digs_len _ _).2 (by rw[Nat.pow_succ];omega);have p1:=plus_any r r ar ar cr cr (by omega) (by omega) _ hsr hsr;have HR:=Qh hsr;have HRN:=Qh hrn;clear hnL hrn hsr;have HOWN:=Qh hown;have HQB:=Qh (belowV_of_owns hown);clear hown hap;go_wp2_with fail;(with_reducible refine p1.mono ?_);rintro e w1 ⟨v1,rfl,⟨a1,c1,rfl,hs1⟩,hf,hb1⟩;have HB1:=Qh (bstep hb hb1 lrf);have HOWN1:=Qh (Owns.keep HOWN.out hb1 lrf);have p2:=fun w'=>from_any bit (by omega) w'
     have hb1':=hb1;clear hb1 p1 hf;go_wp2_with fail;with_reducible refine(p2 _).mono ?_
     rintro e w2 ⟨v2,rfl,⟨a2,c2,rfl,hs2⟩,hf,hb2'⟩;have HB2:=Qh (bstep HB1.out hb2' lrf);have HOWN2:=Qh (Owns.keep HOWN1.out hb2' lrf);have p3:=plus_any (r+r) bit a1 a2 c1 c2 (by omega) (by omega) w2 (hs1.keep hb2' lrf) hs2;clear p2 hs1 hs2 hf;go_wp2_with fail;(with_reducible refine p3.mono ?_);rintro e w3 ⟨v3,rfl,⟨a3,c3,rfl,hs3⟩,hf,hb3⟩;have HB3:=Qh (bstep HB2.out hb3 lrf);have HOWN3:=Qh (Owns.keep HOWN2.out hb3 lrf);have hT3:=HT.out.keep HB3.out lrf;have HAP3:=Qh (apart_of hf HQB.out (Nat.le_trans hb1'.size hb2'.size));have p4:=held_any (r+r+bit) n a3 b c3 cb (by omega) (by omega) w3 hs3 hT3;clear hb3 p3 hf hb1' hb2';obtain⟨R,hR⟩:∃ R,R=r+r+bit:=⟨_,rfl⟩
     rw[← hR]at hs3 p4 hRL ⊢;have HRR:=Qh hR;clear hR hrrL hbL hrL hc r4 r5;obtain⟨hv,hhv⟩:∃ x,x=heldI R n:=⟨_,rfl⟩
     rw[← hhv]at p4;by_cases hRn:R < n
     ·have hv1:hv = -1:=(by rw[hhv];unfold heldI;rw[if_pos hRn]);have HDN:=Qh (show DivS m n i (valD xs) R by
       have:=divS_no HD.out (by rw[HBB.out,← HRR.out];exact hRn)
       rwa [HBB.out,← HRR.out]at this)
      subst hv1;clear hhv;go_wp2_with fail;(with_reducible refine p4.mono ?_);rintro e w4 ⟨rfl,rfl⟩;clear p4;go_wp2_with fail;go_roundw;case rel=>exact⟨i,R,xs,rfl,by omega,HOWN3.out,hlen,hok,HDN.out,⟨a3,c3,rfl,hs3⟩,(by have h:=HAP3.out;rwa [← HRR.out]at h),HB3.out⟩
      case measure=>simp[intOf]
     ·have hv1:0≤hv:=(by rw[hhv];unfold heldI;rw[if_neg hRn];split<;>decide);have HDY:=Qh (show DivS m n i (valD xs+2 ^ i) (R - n)by
       have:=divS_yes HD.out (by rw[HBB.out,← HRR.out];omega)
       rwa [HBB.out,← HRR.out]at this)
      have p5:=less_any R n (by omega) a3 b c3 cb (by omega) w3 hs3 hT3;clear hhv;go_wp2_with fail;(with_reducible refine p4.mono ?_);rintro e w4 ⟨rfl,rfl⟩;clear p4;go_wp2_with fail;(with_reducible refine p5.mono ?_);rintro e w5 ⟨v5,rfl,⟨a5,c5,rfl,hs5⟩,hf,hb5⟩;have HB5:=Qh (bstep HB3.out hb5 lrf);have hown5:=Owns.keep HOWN3.out hb5 lrf;have HAP5:=Qh (apart_of hf (belowV_of_owns HOWN3.out) lrf);have HNV5:=Qh (show NatV w5 _ (R - n)from ⟨a5,c5,rfl,hs5⟩);clear hb5 p5 hs3 hT3 hf hs5;have hk0:0 < xs.length:=(by omega);obtain⟨g,cg,hsl,hgb,hglt,hcap,hcm⟩:=hown5.block hk0;rw[hlen]at hsl;simp only[Value.slice.injEq,true_and]at hsl;obtain⟨rfl,rfl⟩:=hsl;have hfr:=hown5.free q;obtain⟨_,_,hge,_,hcq⟩:=SlD.at hown5.sl.2 (show q < xs.length by omega);simp only[Option.some.injEq,Addr.mk.injEq,and_true]at hge;obtain⟨rfl,rfl⟩:=hge;rw[Nat.zero_add]at hcq;obtain⟨x,hx,hxl,hor,hps,hsum,hVS⟩:=bit_put hok HD.out HQ.out.1 HQ.out.2 (by omega);rw[hx]at hcq;have r6:bits .or .u32 (x:Int) ((2 ^ s:Nat):Int)=((x+2 ^ s:Nat):Int):=(by rw[u32_or_nat _ _ hxl hps,hor]);have r7:IntKind.u32.wrap (2 ^ s)=((2 ^ s:Nat):Int):=by
       have:((2:Int) ^ s)=((2 ^ s:Nat):Int):=by simp
       rw[this];exact wrap32N _ hps
      have r8:IntKind.i64.wrap ((i:Int) / 32)=(q:Int):=(by rw[r2];unfold IntKind.wrap;simp[IntKind.bits,IntKind.signed];omega);have hqk2:(q:Int) < k:=(by omega);generalize hpw:2 ^ s=pw at *;have HOWN5:=Qh hown5;have HVS:=Qh hVS;have HSUM:=Qh hsum;have HX:=Qh hx;have l0:=fun z:Later w5=>Later.cell hcq z
      clear hx hor hps hVS hsum hown5 hk0;go_upto_region 14 with fail
      refine wp_region_later 13 (by kernel_rfl) (by kernel_rfl) ?_;simp only[List.take_succ_cons,List.take_zero,List.drop_succ_cons,List.drop_zero]
      repeat (go_big_quiet_step (fail))
      refine wpQuiet_nil ?_;rintro _ ⟨z,rfl⟩;have l1:=l0 z;have HB6:=Qh (bstep HB5.out z.below lrf);have HOWN6:=Qh (Owns.keep HOWN5.out z.below lrf);have HNV6:=Qh (HNV5.out.keep z.below);have hfr6:=HOWN6.out.free q;clear l0 hfr hcq;generalize z.w=w6 at *;go_wp2_with fail;go_roundw;case rel=>exact⟨i,R - n,xs.set q (x+pw),rfl,by omega,Owns.set1 (fun y:Nat=>.int .u32 (y:Nat)) (fun _=>rfl) HOWN6.out (x+pw) (by omega),by rw[List.length_set];exact hlen,okD_set hok q HSUM.out,by rw[HVS.out];exact HDY.out,natV_set HNV6.out HAP5.out,HAP5.out,HB6.out.setCell (by simp;omega) _⟩
      case measure=>simp[intOf]
structure MulS (m n L i k:Nat) (xs:List Nat) (c:Nat):Prop where
 len:xs.length=L
 ok:okD xs
 car:c < 4294967296
 val:valD xs+c*4294967296 ^ (i+k)=(m % 4294967296 ^ i)*n+4294967296 ^ i*(m / 4294967296 ^ i % 4294967296)*(n % 4294967296 ^ k)
 high:∀ j,(h:j < xs.length)→i+(digs n).length≤j→xs[j]=0
structure MulR (m n L i:Nat) (xs:List Nat):Prop where
 len:xs.length=L
 ok:okD xs
 val:valD xs=(m % 4294967296 ^ i)*n
 high:∀ j,(h:j < xs.length)→i+(digs n).length≤j→xs[j]=0
theorem mulR_start (m n L:Nat):MulR m n L 0 (List.replicate L 0):=
 ⟨List.length_replicate,fun x hx=>by rw[(List.mem_replicate.1 hx).2];decide,by rw[valD_zeros];simp[Nat.mod_one],fun j h _=>by simp⟩
theorem mulR_in {m n L i:Nat} {xs:List Nat} (h:MulR m n L i xs):MulS m n L i 0 xs 0:=
 ⟨h.len,h.ok,by decide,by rw[h.val];simp[Nat.mod_one],h.high⟩
theorem mulR_end {m n L i:Nat} {xs:List Nat} (h:MulR m n L i xs) (hi:(digs m).length≤i):valD xs=m*n:=by
 rw[h.val,lt_pow_len hi]
theorem mul_fits {x y l c:Nat} (hx:x < 4294967296) (hy:y < 4294967296) (hl:l < 4294967296) (hc:c < 4294967296):x*y+l+c < 18446744073709551616:=by
 have:=Nat.mul_le_mul (show x≤4294967295 by omega) (show y≤4294967295 by omega);omega
theorem mulS_step {m n L i k:Nat} {xs:List Nat} {c:Nat} (h:MulS m n L i k xs c) (hL:i+k < L) (hk:k < (digs n).length) (N:Nat)
  (hN:N=m / 4294967296 ^ i % 4294967296*(n / 4294967296 ^ k % 4294967296)+xs[i+k]'(by rw[h.len];exact hL)+c) :
  MulS m n L i (k+1) (xs.set (i+k) (N % 4294967296)) (N / 4294967296)∧N < 18446744073709551616:=by
 have hl:i+k < xs.length:=(by rw[h.len];exact hL);have hx:=Nat.mod_lt (m / 4294967296 ^ i) (show 0 < 4294967296 by decide);have hy:=Nat.mod_lt (n / 4294967296 ^ k) (show 0 < 4294967296 by decide);have hlt:=h.ok xs[i+k] (List.getElem_mem _);have hset:=valD_set xs (i+k) hl (N % 4294967296);have hfit:=mul_fits hx hy hlt h.car;rw[← hN]at hfit;refine⟨⟨by rw[List.length_set];exact h.len,okD_set h.ok _ (Nat.mod_lt _ (by decide)),by omega,?_,?_⟩,hfit⟩
 ·rw[pow_split n k,← Nat.add_assoc,Nat.pow_succ 4294967296 (i+k),Nat.mul_add,← Nat.add_assoc,← h.val];have hp:4294967296 ^ i*(m / 4294967296 ^ i % 4294967296)*(4294967296 ^ k*(n / 4294967296 ^ k % 4294967296))=4294967296 ^ (i+k)*(m / 4294967296 ^ i % 4294967296*(n / 4294967296 ^ k % 4294967296)):=by
   rw[Nat.pow_add,Nat.mul_mul_mul_comm]
  rw[hp];generalize 4294967296 ^ (i+k)=p at *;generalize m / 4294967296 ^ i % 4294967296*(n / 4294967296 ^ k % 4294967296)=xy at *;generalize xs[i+k]=l at *;have e1:=Nat.mod_add_div N 4294967296;have e2:p*(N % 4294967296)+N / 4294967296*(p*4294967296)=p*N:=by
   conv=>rhs;rw[← e1]
   rw[Nat.mul_add,Nat.mul_left_comm (N / 4294967296),Nat.mul_comm (N / 4294967296) 4294967296]
  have e3:p*N=p*xy+p*l+c*p:=(by rw[hN,Nat.mul_add,Nat.mul_add,Nat.mul_comm c p]);omega
 ·intro j hj hij;rw[List.length_set]at hj;rw[List.getElem_set_ne (by omega)];exact h.high j hj hij
theorem mulS_out {m n L i:Nat} {xs:List Nat} {c:Nat} (h:MulS m n L i (digs n).length xs c) (hL:i+(digs n).length < L) :
  MulR m n L (i+1) (xs.set (i+(digs n).length) c):=by
 have hl:i+(digs n).length < xs.length:=(by rw[h.len];exact hL);have hset:=valD_set xs (i+(digs n).length) hl c;rw[h.high _ hl lrf,Nat.mul_zero,Nat.add_zero,Nat.mul_comm _ c,h.val,lt_pow_len lrf]at hset;refine⟨by rw[List.length_set];exact h.len,okD_set h.ok _ h.car,?_,?_⟩
 ·rw[hset,pow_split m i,Nat.add_mul]
 ·intro j hj hij;rw[List.length_set]at hj;rw[List.getElem_set_ne (by omega)];exact h.high j hj (by omega)
theorem mulS_out' {m n L i J:Nat} {xs:List Nat} {c:Nat} (hJ:(digs n).length=J) (h:MulS m n L i J xs c) (hL:i+J < L):MulR m n L (i+1) (xs.set (i+J) c):=by
 subst hJ;exact mulS_out h hL
set_option maxRecDepth 100000 in theorem times_any (m n : Nat) (a b : Option Addr) (ca cb : Nat) (hm : (digs m).length ≤ 100000) (hn : (digs n).length ≤ 100000) (w : World) (hs : SlD w a ca (digs m)) (ht : SlD w b cb (digs n)) :
  Calls prog 181 #[.slice a (digs m).length ca,.slice b (digs n).length cb] w (RetNat w (m*n)):=by
 have HS:=Qh hs;have HT:=Qh ht;clear hs ht;generalize hK:(digs m).length=K at *;generalize hJ:(digs n).length=J at *;have HK:=Qh hK;have HJ:=Qh hJ;clear hK hJ;go_enter func181,ntmps181
 go_wp2_with fail;go_loopw [5,6] (fun v i wr=>∃ k:Nat,i=.int .i64 (k:Nat)∧k≤K+J∧Owns wr w.heap.size 74 1 enW v (List.replicate k 0)∧Below w.heap.size w wr) (fun _ i _=>K+J - (intOf i).toNat)
 case atStart=>exact⟨0,rfl,Nat.zero_le _,Owns.nil _ _ _ _ _,Below.refl _ _⟩
 case round=>
  obtain⟨k,rfl,hk,hown,hb⟩:=hrel;by_cases hkK:(k:Int) < (K:Int)+J
  ·go_wp2_with (at_builtin;go_loud (refine wpList_append_elem words_ty (List.replicate k 0) 0 hown hb lrf (by simp;omega) ?_ (hone:=by simp[enW,Value.oneCell'])))
   intro v' w2 hown2 hb2;clear hown hb;go_wp2_with fail;go_roundw;case rel=>exact⟨k+1,by go_num,by omega,by rw[List.replicate_succ'];exact hown2,hb2⟩
   case measure=>simp[intOf];omega
  ·obtain rfl:k=K+J:=by omega
   obtain⟨aq,cq,rfl,_⟩:=hown.shape;rw[List.length_replicate]at *;go_wp2_with fail;go_loopw [7] (fun i wr=>∃ (k:Nat) (xs:List Nat),i=.int .i64 (k:Nat)∧k≤K∧Owns wr w.heap.size 74 1 enW (.slice aq (K+J) cq) xs∧MulR m n (K+J) k xs∧Below w.heap.size w wr) (fun i _=>K - (intOf i).toNat)
   case atStart=>exact⟨0,List.replicate (K+J) 0,rfl,Nat.zero_le _,hown,mulR_start m n _,hb⟩
   case round=>
    clear hown hb;obtain⟨i,xs,rfl,hi,hown,hR,hb⟩:=hrel;have HR:=Qh hR;clear hR;by_cases hiK:(i:Int) < K
    ·have hiK':i < K:=(by omega);go_wp2_with fail;go_loopw [8,9] (fun c x wr=>∃ (k cy:Nat) (xs:List Nat),x=.int .i64 (k:Nat)∧c=.int .u64 (cy:Nat)∧k≤J∧Owns wr w.heap.size 74 1 enW (.slice aq (K+J) cq) xs∧MulS m n (K+J) i k xs cy∧Below w.heap.size w wr) (fun _ x _=>J - (intOf x).toNat)
     case atStart=>exact⟨0,0,xs,rfl,rfl,Nat.zero_le _,hown,mulR_in HR.out,hb⟩
     case round=>
      clear hown hb HR xs;obtain⟨k,cy,xs,rfl,rfl,hk,hown,hS,hb⟩:=hrel;have HS2:=Qh hS;clear hS;by_cases hkJ:(k:Int) < J
      ·have hkJ':k < J:=(by omega);have hlen:=HS2.out.len;obtain⟨ga,oa,rfl,_,hca⟩:=SlD.at (HS.out.keep hb lrf) (show i < (digs m).length by rw[HK.out];exact hiK');obtain⟨gb,ob,rfl,_,hcb⟩:=SlD.at (HT.out.keep hb lrf) (show k < (digs n).length by rw[HJ.out];exact hkJ');have hda:(digs m)[i]'(by rw[HK.out];exact hiK')=m / 4294967296 ^ i % 4294967296:=by
        rw[← digit_digs,List.getElem?_eq_getElem (by rw[HK.out];exact hiK')];rfl
       have hdb:(digs n)[k]'(by rw[HJ.out];exact hkJ')=n / 4294967296 ^ k % 4294967296:=by
        rw[← digit_digs,List.getElem?_eq_getElem (by rw[HJ.out];exact hkJ')];rfl
       rw[hda]at hca;rw[hdb]at hcb;clear hda hdb;obtain⟨g,cg,hsl,hgb,hglt,hcap,hcm⟩:=hown.block (by rw[hlen];omega);rw[hlen]at hsl;simp only[Value.slice.injEq,true_and]at hsl;obtain⟨rfl,rfl⟩:=hsl;have hfr:=hown.free (i+k);obtain⟨_,_,hge,_,hcq⟩:=SlD.at hown.sl.2 (show i+k < xs.length by omega);simp only[Option.some.injEq,Addr.mk.injEq,and_true]at hge;obtain⟨rfl,rfl⟩:=hge;rw[Nat.zero_add]at hcq;have hstep:=mulS_step HS2.out (show i+k < K+J by omega) (show k < (digs n).length by rw[HJ.out];exact hkJ') _ rfl;have x1:=Nat.mod_lt (m / 4294967296 ^ i) (show 0 < 4294967296 by decide);have x2:=Nat.mod_lt (n / 4294967296 ^ k) (show 0 < 4294967296 by decide);have x3:=HS2.out.ok xs[i+k] (List.getElem_mem _);have x4:=HS2.out.car;have x5:=mul_fits x1 x2 x3 x4;have x6:=Nat.mul_le_mul (Nat.le_of_lt_succ x1) (Nat.le_of_lt_succ x2);have v1:((m / 4294967296 ^ i % 4294967296:Nat):Int)*((n / 4294967296 ^ k % 4294967296:Nat):Int)=((m / 4294967296 ^ i % 4294967296*(n / 4294967296 ^ k % 4294967296):Nat):Int):=(by simp);generalize m / 4294967296 ^ i % 4294967296*(n / 4294967296 ^ k % 4294967296)=p at *;generalize m / 4294967296 ^ i % 4294967296=x at *;generalize n / 4294967296 ^ k % 4294967296=y at *;generalize xs[i+k]=l at *;have e1:IntKind.u32.wrap ((p:Int)+(l:Int)+(cy:Int))=(((p+l+cy) % 4294967296:Nat):Int):=(by unfold IntKind.wrap;simp[IntKind.bits,IntKind.signed]);have e2:((p:Int)+(l:Int)+(cy:Int)) / 4294967296=(((p+l+cy) / 4294967296:Nat):Int):=(by omega);have hlo:(p+l+cy) % 4294967296 < 4294967296:=Nat.mod_lt _ (by decide);have i1:(p:Int)≤18446744065119617025:=(by omega);have i2:(p:Int)+l+cy≤18446744073709551615:=(by omega);have i3:(p:Int)+l≤18446744073709551615:=(by omega);have HST:=Qh hstep;clear hstep x5 x6;generalize (p+l+cy) % 4294967296=lo at *;generalize (p+l+cy) / 4294967296=hi at *;have HLO:=Qh hlo;have HOWN:=Qh hown;clear hlo hown;go_wp2_with fail;go_quiet (fail)
       go_wp2_with fail;go_roundw;case rel=>exact⟨k+1,hi,xs.set (i+k) lo,by go_num,rfl,by omega,Owns.set1 (fun y:Nat=>.int .u32 (y:Nat)) (fun _=>rfl) (HOWN.out.keep (Go.below_drewN (Below.refl _ _) _) lrf) lo (by omega),HST.out.1,(Go.below_drewN hb _).setCell (by simp;omega) _⟩
       case measure=>simp[intOf];omega
      ·obtain rfl:k=J:=by omega
       have hlen:=HS2.out.len;obtain⟨g,cg,hsl,hgb,hglt,hcap,hcm⟩:=hown.block (by rw[hlen];omega);rw[hlen]at hsl;simp only[Value.slice.injEq,true_and]at hsl;obtain⟨rfl,rfl⟩:=hsl;have hfr:=hown.free (i+k);obtain⟨_,_,hge,_,hcq⟩:=SlD.at hown.sl.2 (show i+k < xs.length by omega);simp only[Option.some.injEq,Addr.mk.injEq,and_true]at hge;obtain⟨rfl,rfl⟩:=hge;rw[Nat.zero_add]at hcq;generalize xs[i+k]=l at *;have hcar:=HS2.out.car;have hout:=mulS_out' HJ.out HS2.out (by omega);have HOUT:=Qh hout;have HOWN:=Qh hown;clear hout hown;go_wp2_with fail;go_roundw;case rel=>exact⟨i+1,xs.set (i+k) cy,by go_num,by omega,Owns.set1 (fun y:Nat=>.int .u32 (y:Nat)) (fun _=>rfl) HOWN.out cy (by omega),HOUT.out,hb.setCell (by simp;omega) _⟩
       case measure=>simp[intOf];omega
    ·obtain rfl:i=K:=by omega
     obtain⟨g,cg,hsl,hsx⟩:=hown.shape;rw[HR.out.len]at hsl;simp only[Value.slice.injEq,true_and]at hsl;obtain⟨rfl,rfl⟩:=hsl;have ct:=trim_any xs HR.out.ok aq cq _ hsx;rw[HR.out.len,mulR_end HR.out (Nat.le_of_eq HK.out)]at ct;have HF:=Qh (fun kk=>fresh_of_owns hown kk);clear hown;go_wp2_with fail;refine ct.mono ?_;rintro e w1 ⟨kk,rfl,hnv,rfl⟩;have HNV:=Qh hnv;clear hnv ct;go_wp2_with fail;go_ret;exact⟨_,rfl,HNV.out,HF.out _,hb⟩
end Go.Proofs.YtlacjhjckkablaaGreatDoor
