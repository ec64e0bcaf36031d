/-
  RatThere's plain law: what is printed is read as it was. (No walk here.)
-/
import Derived.Test.YtkblpaabknjckaaGreatDoorTxtP
import Derived.Test.YtkblpaabknjckaaGreatDoorRefO
import Derived.Test.YtkblpaabknjckaaGreatDoorBaseD
import Derived.Test.YtkblpaabknjckaaGreatDoorParX
set_option maxHeartbeats 128000000
set_option linter.unusedVariables false
namespace Go.Proofs.YtkblpaabknjckaaGreatDoor
open Go.RowKit
theorem one_iff {d:Nat} (hd:0 < d) (h1:restN d=1):placesN d=0↔d=1:=by
 have h:=ends_iff d hd h1 0;rw[Nat.pow_zero,Nat.dvd_one]at h;constructor
 ·intro h0;exact h.2 (by omega)
 ·intro h0;have:=h.1 h0;omega
theorem ttw_app {d:List UInt8} (hd:digL d) (l:List UInt8):tw (d++l)=d++tw l∧dw (d++l)=dw l:=by
 induction d with
 | nil=>exact⟨rfl,rfl⟩
 | cons c t ih=>
  have hc:=hd c (List.mem_cons_self ..);obtain⟨i1,i2⟩:=ih (fun x hx=>hd x (List.mem_cons_of_mem _ hx));rw[List.cons_append,tw_cons hc,dw_cons hc,i1,i2];exact⟨rfl,rfl⟩
theorem cutS_sgn (n:Int) {d:List UInt8} (hd:digL d) (hne:d≠[]) (l:List UInt8):cutS (sgnL n++(d++l))=(decide (n < 0),d++l):=by
 unfold sgnL;by_cases h:n < 0
 ·rw[if_pos h];simp[cutS,isSg,h]
 ·rw[if_neg h,decide_eq_false h];cases d with
  | nil=>exact absurd rfl hne
  | cons c t=>exact cutS_not (dg_not (hd c (List.mem_cons_self ..))).1
theorem dec_ne (u:Nat):Lib.decDigits u≠[]:=by intro h;have:=dec_pos u;rw[h]at this;simp at this
theorem read_int (n:Int):readL (sgnL n++Lib.decDigits n.natAbs)=some (decide (n < 0),Lib.decDigits n.natAbs,0):=by
 have hd:=dec_digL n.natAbs;have hne:=dec_ne n.natAbs;have hc:=cutS_sgn n hd hne [];have ht:=ttw_app hd [];have h1:tw []=[]:=rfl;have h2:dw []=[]:=rfl;rw[List.append_nil]at hc ht;rw[h1,h2,List.append_nil]at ht;rw[read_cut];unfold cutL;rw[hc];simp only[ht.1,ht.2,if_neg hne];simp[cutP,cutE,sgP,powL,powS]
theorem read_point (n:Int) (q:Nat) (r:List UInt8) (hr:digL r) (hne:r≠[]):readL (sgnL n++(Lib.decDigits q++46::r))=some (decide (n < 0),Lib.decDigits q++r,-(r.length:Int)):=by
 have hd:=dec_digL q;have hq:=dec_ne q;have hc:=cutS_sgn n hd hq (46::r);have ht:=ttw_app hd (46::r);have h1:tw (46::r)=[]:=tw_stop (by decide);have h2:dw (46::r)=46::r:=dw_stop (by decide);have h3:=ttw_app hr [];have h4:tw []=[]:=rfl;have h5:dw []=[]:=rfl;rw[List.append_nil,h4,h5,List.append_nil]at h3;rw[h1,h2,List.append_nil]at ht;rw[read_cut];unfold cutL;rw[hc];simp only[ht.1,ht.2,if_neg hq];simp[cutP,cutE,sgP,powL,powS,h3.1,h3.2,hne]
theorem sgn_lenL (n:Int):(sgnL n).length≤1:=by unfold sgnL;split<;>simp
def okV (n d:Int):Value:=.tuple #[.agg #[.int .i64 n,.int .i64 d],.nilIface]
theorem parse_int (n:Int) (h:In64 n):parseV (sgnL n++Lib.decDigits n.natAbs)=okV n 1:=by
 have hl:(Lib.decDigits n.natAbs).length≤20:=dec_len64 (by have:=h.1;have:=h.2;omega);have hs:=sgn_lenL n;unfold parseV;rw[if_neg (by rw[List.length_append];omega),read_int];unfold parseR;simp only;have hf:parseF (decide (n < 0)) (valL (Lib.decDigits n.natAbs)) 0=some (n,1):=by
  rw[dec_valL];unfold parseF;rw[show(10:Nat) ^ Int.toNat (-0)=1 from rfl,show(10:Nat) ^ Int.toNat 0=1 from rfl,Nat.mul_one,frac_iff _ _ _ (by decide),sgn_of];exact⟨⟨by decide,by decide,h.1,h.2,Nat.gcd_one_right _⟩,by simp⟩
 rw[hf];rfl
theorem rest_div {A d:Nat} (hd:0 < d) (h1:restN d=1):(A / d*10 ^ placesN d+A % d*10 ^ placesN d / d)*d=A*10 ^ placesN d:=by
 have hdv:d ∣ 10 ^ placesN d:=(ends_iff d hd h1 _).2 lrf;have h2:A % d*10 ^ placesN d / d*d=A % d*10 ^ placesN d:=Nat.div_mul_cancel (Nat.dvd_trans hdv (Nat.dvd_mul_left _ _));rw[Nat.add_mul,h2,Nat.mul_right_comm,← Nat.add_mul,Nat.mul_comm (A / d) d,Nat.div_add_mod]
theorem parse_point (n:Int) (d:Nat) (hn:In64 n) (h1:1≤d) (h2:d≤9223372036854775807) (hg:Nat.gcd n.natAbs d=1) (hr:restN d=1) (hd1:d≠1) :
  parseV (sgnL n++(Lib.decDigits (n.natAbs / d)++46::longD (placesN d) (n.natAbs % d) d))=okV n d:=by
 have hk:placesN d≠0:=fun h=>hd1 ((one_iff h1 hr).1 h)
 have hk2:=places_le h1 h2;have hq:n.natAbs / d≤n.natAbs:=Nat.div_le_self _ _;have hl:(Lib.decDigits (n.natAbs / d)).length≤20:=dec_len64 (by have:=hn.1;have:=hn.2;omega);have hs:=sgn_lenL n;have hm:n.natAbs % d < d:=Nat.mod_lt _ h1;have hL:longD (placesN d) (n.natAbs % d) d=padD (placesN d) (n.natAbs % d*10 ^ placesN d / d):=longD_pad _ _ _ hm;have hF:n.natAbs % d*10 ^ placesN d / d < 10 ^ placesN d:=by
  rw[Nat.div_lt_iff_lt_mul h1,Nat.mul_comm (10 ^ _)];exact Nat.mul_lt_mul_of_pos_right hm (Nat.pow_pos (by decide))
 have hne:longD (placesN d) (n.natAbs % d) d≠[]:=by
  intro h;have:=longD_len (placesN d) (n.natAbs % d) d;rw[h]at this;simp at this;omega
 unfold parseV;rw[if_neg (by rw[List.length_append,List.length_append,List.length_cons,longD_len];omega),read_point n _ _ (by rw[hL];exact digL_pad _ _) hne];unfold parseR;simp only;have hf:parseF (decide (n < 0)) (valL (Lib.decDigits (n.natAbs / d)++longD (placesN d) (n.natAbs % d) d)) (-((longD (placesN d) (n.natAbs % d) d).length:Int))=some (n,(d:Int)):=by
  rw[valL_app,dec_valL,longD_len,hL,valL_pad _ _ hF];unfold parseF;rw[frac_iff _ _ _ (p10 _)];refine⟨⟨by omega,by omega,hn.1,hn.2,by simpa using hg⟩,?_⟩;have e:=rest_div (A:=n.natAbs) h1 hr;have e1:(-(placesN d:Int)).toNat=0:=(by omega);have e2:(- -(placesN d:Int)).toNat=placesN d:=(by omega);rw[e1,e2,Nat.pow_zero,Nat.mul_one];generalize n.natAbs / d*10 ^ placesN d+n.natAbs % d*10 ^ placesN d / d=V at e ⊢;generalize 10 ^ placesN d=T at e ⊢;unfold sgn;have e3:(V:Int)*d=(n.natAbs:Int)*T:=(by exact_mod_cast e);by_cases h0:n < 0
  ·have:(n.natAbs:Int) = -n:=by omega
   rw[this]at e3;simp only[h0,decide_true,if_true];rw[Int.neg_mul,e3,Int.neg_mul,Int.neg_neg]
  ·have:(n.natAbs:Int)=n:=by omega
   rw[this]at e3;simp only[h0,decide_false];exact e3.symm
 rw[hf];rfl
theorem dig_no {l:List UInt8} (h:digL l):∀ c∈l,c≠47:=fun c hc e=>by
 have:=h c hc;rw[e]at this;revert this;decide
theorem sgn_no (n:Int):∀ c∈sgnL n,c≠47:=by
 intro c hc;unfold sgnL at hc;split at hc
 ·simp at hc;subst hc;decide
 ·simp at hc
end Go.Proofs.YtkblpaabknjckaaGreatDoor
