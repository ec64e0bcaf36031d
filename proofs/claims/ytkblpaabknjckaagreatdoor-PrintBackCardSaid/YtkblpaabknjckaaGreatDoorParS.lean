/-
  rat's small: contract.
-/
import Derived.Test.YtkblpaabknjckaaGreatDoorBaseD
import Derived.Test.YtkblpaabknjckaaGreatDoorShelfV
import Derived.Test.YtkblpaabknjckaaGreatDoorParR
import Derived.Test.YtkblpaabknjckaaGreatDoorTxtP
import Derived.Laws.IdiomStrings
import Derived.Lib.SmallJoins
import Derived.Test.YtkblpaabknjckaaGreatDoorRatD
import Derived.Test.YtkblpaabknjckaaGreatDoorRatK
import Derived.Test.YtkblpaabknjckaaGreatDoorCalm
import Derived.Test.YtkblpaabknjckaaGreatDoorRefO
set_option maxHeartbeats 128000000
set_option linter.unusedVariables false
namespace Go.Proofs.YtkblpaabknjckaaGreatDoor
open Go.Proofs.Tryz
open Go.RowKit
theorem puM_ok (M:Nat) (hM:M < 18446744073709551616) (l:List UInt8) (acc:Nat) (h:digL l) (hv:acc*10 ^ l.length+valL l≤M):Lib.parseUintM M acc l=.ok (acc*10 ^ l.length+valL l):=by
 induction l generalizing acc with
 | nil=>simp[Lib.parseUintM,valL,valS]
 | cons c l ih=>
  have h1:=(isDg_iff c).1 (h c (by simp));have e:acc*10 ^ (c::l).length+valL (c::l)=(acc*10+(c.toNat - 48))*10 ^ l.length+valL l:=by
   rw[List.length_cons,Nat.pow_succ,valL_cons,Nat.add_mul,Nat.mul_assoc acc 10,Nat.mul_comm 10 (10 ^ l.length)];omega
  rw[e]at hv ⊢;have h2:acc*10+(c.toNat - 48)≤M:=by
   have:=Nat.le_mul_of_pos_right (acc*10+(c.toNat - 48)) (Nat.pow_pos (n:=l.length) (show 0 < 10 by decide));omega
  rw[Lib.parseUintM,if_pos h1,if_neg (by omega),if_neg (by omega)];exact ih _ (fun x hx=>h x (by simp[hx])) hv
theorem pu_ok {l:List UInt8} (h:digL l) (hne:l≠[]) (hv:valL l < 18446744073709551616):Lib.parseUintB 64 l=.ok (valL l):=by
 unfold Lib.parseUintB;rw[if_neg hne];have:=puM_ok (2 ^ 64 - 1) (by decide) l 0 h (by simp;omega)
 simpa using this
theorem pi_ok {l:List UInt8} (h:digL l) (hne:l≠[]) (hv:valL l < 9223372036854775808):Lib.parseIntB 64 l=.ok (valL l:Int):=by
 cases l with
 | nil=>exact absurd rfl hne
 | cons c r=>
  have h1:=(isDg_iff c).1 (h c (by simp));have h2:=pu_ok h hne (by omega);unfold Lib.parseIntB;simp only;rw[if_neg (by omega),h2];simp only;rw[if_neg (by omega),if_neg (by omega),if_neg (by omega)]
theorem div_digit (P d b:Nat) (hb:0 < b):(10*P+d) / b=10*(P / b)+(10*(P % b)+d) / b∧(10*P+d) % b=(10*(P % b)+d) % b:=by
 have h:=Nat.div_add_mod P b;have e:10*P+d=b*(10*(P / b))+(10*(P % b)+d):=by
  conv=>lhs;rw[← h]
  rw[Nat.mul_add,Nat.mul_left_comm];omega
 rw[e,Nat.mul_add_div hb,Nat.mul_add_mod];exact⟨rfl,rfl⟩
theorem div_round (P d b i:Nat) (hb:0 < b) (hd:d≤9):padD (i+1) ((10*P+d) / b)=padD i (P / b)++[dgt ((10*(P % b)+d) / b)]:=by
 have hq:(10*(P % b)+d) / b < 10:=by
  rw[Nat.div_lt_iff_lt_mul hb];have:=Nat.mod_lt P hb;omega
 rw[padD_snoc,(div_digit P d b hb).1];generalize (10*(P % b)+d) / b=q at *;have e1:(10*(P / b)+q) / 10=P / b:=(by omega);have e2:dgt (10*(P / b)+q)=dgt q:=(by unfold dgt;rw[Nat.mul_add_mod]);rw[e1,e2]
theorem conv_digI:∀ (q:Nat) (h:q < 10) (w:World),(convert 21 9 (.int .i32 (48+(q:Int)))).run prog w=.ok (.string ⟨#[dgt q]⟩) w
 | 0,_,w=>by kernel_rfl
 | 1,_,w=>by kernel_rfl
 | 2,_,w=>by kernel_rfl
 | 3,_,w=>by kernel_rfl
 | 4,_,w=>by kernel_rfl
 | 5,_,w=>by kernel_rfl
 | 6,_,w=>by kernel_rfl
 | 7,_,w=>by kernel_rfl
 | 8,_,w=>by kernel_rfl
 | 9,_,w=>by kernel_rfl
 | n+10,h,w=>absurd h (by omega)
set_option maxRecDepth 100000 in theorem divided_digits (V b : Nat) (hV : 0 < V) (hb1 : 2 ≤ b) (hb2 : b ≤ 5) (hdv : V % b = 0) (hlen : (Lib.decDigits V).length ≤ 1000) (w : World) :
  Calls prog 204 #[.string ⟨(Lib.decDigits V).toArray⟩,.int .i64 b] w fun e w'=>e=.returned (.string ⟨(Lib.decDigits (V / b)).toArray⟩)∧w' = w:=by
 have hd:=dec_digL V;have hval:=dec_valL V;generalize hL:Lib.decDigits V=L at *;have HD:=Qh hd;have HVAL:=Qh hval;have hVb:0 < V / b:=Nat.div_pos (by
  rcases Nat.lt_or_ge V b with h|h
  ·rw[Nat.mod_eq_of_lt h]at hdv;omega
  ·exact h) (by omega)
 have hVl:V / b < 10 ^ L.length:=by
  have:=valL_lt hd;rw[hval]at this;exact Nat.lt_of_le_of_lt (Nat.div_le_self _ _) this
 have HTR:=Qh (drop_pad L.length (V / b) hVb hVl);clear hd hval hL hVb hVl hdv hV;have hb0:¬ b=0:=(by omega);have hb0':((b:Int) == 0)=false:=(by rw[beq_eq_false_iff_ne];omega);go_enter func204,ntmps204
 go_wp2_with fail;go_loopw [5,6,10] (fun s r x wr=>∃ i:Nat,x=.int .i64 (i:Nat)∧i≤L.length∧r=.int .i64 (valL (L.take i) % b:Nat)∧s=.string ⟨(padD i (valL (L.take i) / b)).toArray⟩∧wr=w) (fun _ _ x _=>L.length - (intOf x).toNat)
 case atStart=>exact⟨0,rfl,Nat.zero_le _,by simp[valL,valS],by simp[padD],rfl⟩
 case round=>
  obtain⟨i,rfl,hi,rfl,rfl,rfl⟩:=hrel;by_cases hlt:(i:Int) < L.length
  ·have hlt':i < L.length:=(by omega);have hget:(⟨L.toArray⟩:ByteArray)[i]'hlt' = L[i]:=rfl;have hc:=(isDg_iff L[i]).1 (HD.out L[i] (List.getElem_mem _));have hsn:valL (L.take (i+1))=10*valL (L.take i)+(L[i].toNat - 48):=by
    rw[List.take_succ_eq_append_getElem hlt',valL_snoc]
   have hpl:=padD_len i (valL (L.take i) / b);have hmod:valL (L.take i) % b < b:=Nat.mod_lt _ (by omega);have hround:=div_round (valL (L.take i)) (L[i].toNat - 48) b i (by omega) (by omega);have hdig:=(div_digit (valL (L.take i)) (L[i].toNat - 48) b (by omega)).2;rw[← hsn]at hround hdig;have HSN:=Qh (And.intro hround hdig);clear hround hdig hsn;generalize hcc:L[i]=c at *;generalize hrr:valL (L.take i) % b=r at *;generalize padD i (valL (L.take i) / b)=S at *;clear hrr hcc;obtain⟨d,hdd⟩:∃ d,d=c.toNat - 48:=⟨_,rfl⟩
   have hcd:(c.toNat:Int)=48+(d:Int):=(by omega);rw[← hdd]at HSN;have hd9:d≤9:=(by omega);have hq9:(10*r+d) / b < 10:=(by rw[Nat.div_lt_iff_lt_mul (by omega)];omega);have t1:(10*(r:Int)+(48+(d:Int) - 48)) / (b:Int)=(((10*r+d) / b:Nat):Int):=by
    rw[show 10*(r:Int)+(48+(d:Int) - 48)=((10*r+d:Nat):Int)by omega,Int.natCast_ediv]
   have t2:(10*(r:Int)+(48+(d:Int) - 48)) % (b:Int)=(((10*r+d) % b:Nat):Int):=by
    rw[show 10*(r:Int)+(48+(d:Int) - 48)=((10*r+d:Nat):Int)by omega,Int.natCast_emod]
   have hr2:(10*r+d) % b < b:=Nat.mod_lt _ (by omega);have hr5:(r:Int)≤4:=(by omega);generalize (10*r+d) / b=q at *;generalize (10*r+d) % b=r2 at *;have hcv:=fun w=>conv_digI q hq9 w
   have st:=strA S [dgt q];have hl3:¬ 9223372036854775807 < S.length+1:=(by omega);have hl4:S.length < 9223372036854775807:=(by omega);have HSL:=Qh hpl;clear hdd hc hr2 hmod hpl;go_wp2_with fail;go_roundw;case rel=>exact⟨i+1,by go_num,by omega,by rw[HSN.out.2,t2],by rw[HSN.out.1],trivial⟩
   case measure=>simp[intOf];omega
  ·obtain rfl:i=L.length:=by omega
   have HV2:=Qh (show valL (L.take L.length)=V by rw[List.take_length,HVAL.out]);rw[HV2.out];have ct:=Tryz.strings_TrimLeft_one ⟨(padD L.length (V / b)).toArray⟩ 48 (by decide) wr;rw[show Lib.trimLeftB (⟨(padD L.length (V / b)).toArray⟩:ByteArray).data.toList 48=Lib.decDigits (V / b)from HTR.out]at ct;go_wp2_with fail;(with_reducible refine ct.mono ?_);rintro e w1 ⟨rfl,rfl⟩;clear ct;go_wp2_with fail;go_ret;exact⟨rfl,rfl⟩
theorem dec_last (V:Nat):∃ P,Lib.decDigits V=P++[dgt V]:=by
 obtain⟨k,h1,_⟩:=dec_len V;exact⟨padD k (V / 10),by rw[h1,padD_snoc]⟩
theorem dgt_val (V:Nat):(dgt V).toNat=48+V % 10:=by
 have e:dgt V=dgt (V % 10):=(by unfold dgt;rw[Nat.mod_mod]);rw[e,dgt_toNat (Nat.mod_lt _ (by decide))]
theorem last_dig (V:Nat):∃ p,(Lib.decDigits V).length=p+1∧∃ h:p < (Lib.decDigits V).length,(⟨(Lib.decDigits V).toArray⟩:ByteArray)[p]'h=dgt V:=by
 obtain⟨P,hP⟩:=dec_last V;rw[hP];exact⟨P.length,by simp,by simp,by show(P++[dgt V])[P.length]'_=dgt V;simp⟩
def dnN (two i:Nat):Nat:=if i≤two then 2 ^ i else 2 ^ two*5 ^ (i - two)
theorem dn_step (two i:Nat):dnN two (i+1)=dnN two i*(if two≤i then 5 else 2):=by
 unfold dnN;by_cases h:i < two
 ·rw[if_pos (by omega),if_pos (by omega),if_neg (by omega),Nat.pow_succ]
 ·rw[if_neg (by omega),if_pos (show two≤i by omega)];by_cases h2:i=two
  ·subst h2;rw[if_pos lrf];simp
  ·rw[if_neg (by omega),Nat.mul_assoc,← Nat.pow_succ]
   congr 2;omega
theorem dn_mono (two i j:Nat) (h:i≤j):dnN two i≤dnN two j:=by
 obtain⟨k,rfl⟩:∃ k,j=i+k:=⟨j - i,by omega⟩
 induction k with
 | zero=>exact lrf
 | succ k ih=>
  refine Nat.le_trans (ih (by omega)) ?_;rw[← Nat.add_assoc,dn_step];exact Nat.le_mul_of_pos_right _ (by split<;>decide)
theorem dn_end (two five:Nat):dnN two (two+five)=2 ^ two*5 ^ five:=by
 unfold dnN;by_cases h:five=0
 ·subst h;rw[if_pos (by omega)];simp
 ·rw[if_neg (by omega),Nat.add_sub_cancel_left]
theorem fitE_den {neg:Bool} {V D:Nat} (hV:V≠0) (h:9223372036854775807 < D):fitE neg V D=none:=by unfold fitE;rw[if_neg hV,if_pos (.inl h)]
theorem fitE_num {neg:Bool} {V D:Nat} (h:9223372036854775808 < V):fitE neg V D=none:=by unfold fitE;rw[if_neg (by omega),if_pos (.inr (.inl h))]
theorem below_or {w w':World} {e:TypeId} {s:ByteArray} (h:w' = w∨w' = Lib.bytesWorld w e s):Below w.heap.size w w':=by
 rcases h with rfl|rfl
 ·exact Below.refl _ _
 ·exact Joins.below_bytesWorld _ w e s lrf
theorem half_inv {v V two back:Nat} (h:v*2 ^ (two+1)=V*2 ^ back) (hV:V % 2=0):v*2 ^ two=V / 2*2 ^ back:=by
 obtain⟨k,rfl⟩:=Nat.dvd_of_mod_eq_zero hV;rw[Nat.mul_div_cancel_left _ (by decide)];rw[Nat.pow_succ,← Nat.mul_assoc,Nat.mul_comm _ 2,Nat.mul_assoc 2 k]at h;exact Nat.eq_of_mul_eq_mul_left (by decide) h
theorem fifth_inv {x V five back:Nat} (h:x*5 ^ (five+1)=V*5 ^ back) (hV:V % 5=0):x*5 ^ five=V / 5*5 ^ back:=by
 obtain⟨k,rfl⟩:=Nat.dvd_of_mod_eq_zero hV;rw[Nat.mul_div_cancel_left _ (by decide)];rw[Nat.pow_succ,← Nat.mul_assoc,Nat.mul_comm _ 5,Nat.mul_assoc 5 k]at h;exact Nat.eq_of_mul_eq_mul_left (by decide) h
theorem dec_len_mono {a b:Nat} (h:a≤b):(Lib.decDigits a).length≤(Lib.decDigits b).length:=by
 obtain⟨k,h1,h2,_⟩:=dec_len b;rw[h1,padD_len];exact dec_len_le a (k+1) (Nat.lt_of_le_of_lt h h2) (by omega)
theorem dec_ge {V:Nat} (h:19 < (Lib.decDigits V).length):10000000000000000000≤V:=by
 obtain⟨k,h1,h2,h3⟩:=dec_len V;rw[h1,padD_len]at h;rcases h3 with rfl|h3
 ·omega
 ·exact Nat.le_trans (show 10000000000000000000≤10 ^ k from Nat.le_trans (by decide) (Nat.pow_le_pow_right (by decide) (show 19≤k by omega))) h3
theorem dec_lt {V:Nat} (h:¬ 19 < (Lib.decDigits V).length):V < 10000000000000000000:=by
 obtain⟨k,h1,h2,h3⟩:=dec_len V;rw[h1,padD_len]at h;exact Nat.lt_of_lt_of_le h2 (Nat.le_trans (Nat.pow_le_pow_right (by decide) (show k+1≤19 by omega)) (by decide))
set_option maxRecDepth 100000 in theorem long_any (neg : Bool) (v back : Nat) (hv : 0 < v) (hb : back ≤ 62) (hlen : (Lib.decDigits v).length ≤ 200) (w : World) :
  Calls prog 185 #[.bool neg,.string ⟨(Lib.decDigits v).toArray⟩,.int .i64 back] w fun e w'=>e=.returned (ratV (frac neg v (10 ^ back)))∧Below w.heap.size w w':=by
 obtain⟨F,hF⟩:∃ F,F=frac neg v (10 ^ back):=⟨_,rfl⟩
 rw[← hF];have HF:=Qh hF;clear hF;obtain⟨tr,hsz,hbw⟩:=box1 w #[.int .i64 0,.int .i64 0] 87;have TR:=Qh tr;have HBW:=Qh hbw;clear tr hsz hbw;go_enter func185,ntmps185
 go_wp2_with fail;generalize w.alloc (.cells #[.int .i64 0,.int .i64 0] 87)=W at *;go_loopw [1,8] (fun s x wr=>∃ V two:Nat,s=.string ⟨(Lib.decDigits V).toArray⟩∧x=.int .i64 (two:Nat)∧two≤back∧0 < V∧V≤v∧v*2 ^ two=V*2 ^ back∧wr=W) (fun _ x _=>(intOf x).toNat)
 case atStart=>exact⟨v,back,rfl,rfl,lrf,hv,lrf,rfl,rfl⟩
 case round=>
  obtain⟨V,two,rfl,rfl,htw,hV0,hVv,hinv,rfl⟩:=hrel;have HINV:=Qh hinv;have hVl:=Nat.le_trans (dec_len_mono hVv) hlen;have cd:V % 2=0→∀ w:World,Calls prog 204 #[.string ⟨(Lib.decDigits V).toArray⟩,.int .i64 2] w fun e w'=>e=.returned (.string ⟨(Lib.decDigits (V / 2)).toArray⟩)∧w' = w:=fun h w=>divided_digits V 2 hV0 (by decide) (by decide) h (by omega) w
  obtain⟨p,hp,hlt,hget⟩:=last_dig V;have hdv:((dgt V).toNat:Int)=48+((V % 10:Nat):Int):=(by rw[dgt_val];omega);have hsub:((Lib.decDigits V).length:Int) - 1=(p:Int):=(by omega);have hm9:V % 10≤9:=(by omega);clear hinv;generalize hL:Lib.decDigits V=L at *;have HL:=Qh hL;clear hL;generalize dgt V=c at *;have HP:=Qh hp;clear hp;obtain⟨b,hb⟩:∃ b,b=decide (0 < two∧V % 2=0):=⟨_,rfl⟩
  go_upto_region 2 with fail
  go_cut [28] (fun x wc=>x=.bool b∧wc=wr)
  case first=>
   by_cases h0:0 < two
   ·have h0':(0:Int) < two:=(by omega);by_cases h2:V % 2=0
    ·have hb1:b=true:=(by rw[hb];exact decide_eq_true ⟨h0,h2⟩);have e1:(48+((V % 10:Nat):Int) - 48) % 2=0:=(by omega);subst hb1;generalize V % 10=m at *;clear cd hb h2;go_wp2_with fail;go_meet
     case rel=>exact⟨rfl,rfl⟩
    ·have hb1:b=false:=(by rw[hb];exact decide_eq_false (fun h=>h2 h.2));have e1:(48+((V % 10:Nat):Int) - 48) % 2=1:=(by omega);subst hb1;generalize V % 10=m at *;clear cd hb h2;go_wp2_with fail;go_meet
     case rel=>exact⟨rfl,rfl⟩
   ·have h0':¬ (0:Int) < two:=(by omega);have hb1:b=false:=(by rw[hb];exact decide_eq_false (fun h=>h0 h.1));subst hb1;clear cd hb;go_wp2_with fail;go_meet
    case rel=>exact⟨rfl,rfl⟩
  case rest=>
   obtain⟨rfl,rfl⟩:=hcut;clear hlt hget hdv hsub hm9;cases b
   ·have hend:two=0∨V % 2≠0:=by
     rcases Nat.eq_zero_or_pos two with h|h
     ·exact .inl h
     ·right;intro h2;rw[decide_eq_true ⟨h,h2⟩]at hb;cases hb
    clear cd hb;have hl:=HL.out;subst hl;clear HL HP;go_wp2_with fail;go_loopw [1,9] (fun s x ws=>∃ X five:Nat,s=.string ⟨(Lib.decDigits X).toArray⟩∧x=.int .i64 (five:Nat)∧five≤back∧0 < X∧X≤V∧V*5 ^ five=X*5 ^ back∧(two=0∨X % 2≠0)∧ws=wc) (fun _ x _=>(intOf x).toNat)
    case atStart=>exact⟨V,back,rfl,rfl,lrf,hV0,lrf,rfl,hend,rfl⟩
    case round=>
     obtain⟨X,five,rfl,rfl,hfw,hX0,hXV,hinv5,hend2,rfl⟩:=hrel;have HINV5:=Qh hinv5;have HEND2:=Qh hend2;have hXl:=Nat.le_trans (dec_len_mono (Nat.le_trans hXV hVv)) hlen;have cd:X % 5=0→∀ w:World,Calls prog 204 #[.string ⟨(Lib.decDigits X).toArray⟩,.int .i64 5] w fun e w'=>e=.returned (.string ⟨(Lib.decDigits (X / 5)).toArray⟩)∧w' = w:=fun h w=>divided_digits X 5 hX0 (by decide) (by decide) h (by omega) w
     obtain⟨p,hp,hlt,hget⟩:=last_dig X;have hdv:((dgt X).toNat:Int)=48+((X % 10:Nat):Int):=(by rw[dgt_val];omega);have hsub:((Lib.decDigits X).length:Int) - 1=(p:Int):=(by omega);have hm9:X % 10≤9:=(by omega);clear hinv5 hend hend2;generalize hL:Lib.decDigits X=L at *;have HL:=Qh hL;clear hL;generalize dgt X=c at *;have HP:=Qh hp;clear hp;obtain⟨b,hb⟩:∃ b,b=decide (0 < five∧X % 5=0):=⟨_,rfl⟩
     go_upto_region 5 with fail
     go_cut [43] (fun x wc=>x=.bool b∧wc=wr)
     case first=>
      by_cases h0:0 < five
      ·have h0':(0:Int) < five:=(by omega);by_cases h2:X % 5=0
       ·have hb1:b=true:=(by rw[hb];exact decide_eq_true ⟨h0,h2⟩);have e1:(48+((X % 10:Nat):Int)) % 5=3:=(by omega);subst hb1;generalize X % 10=m at *;clear cd hb h2;go_wp2_with fail;go_meet
        case rel=>exact⟨rfl,rfl⟩
       ·have hb1:b=false:=(by rw[hb];exact decide_eq_false (fun h=>h2 h.2));have e1:¬ (48+((X % 10:Nat):Int)) % 5=3:=(by omega);have e2:(((48+((X % 10:Nat):Int)) % 5 == 3)=false):=(by rw[beq_eq_false_iff_ne];exact e1);subst hb1;generalize X % 10=m at *;clear cd hb h2;go_wp2_with fail;go_meet
        case rel=>exact⟨rfl,rfl⟩
      ·have h0':¬ (0:Int) < five:=(by omega);have hb1:b=false:=(by rw[hb];exact decide_eq_false (fun h=>h0 h.1));subst hb1;clear cd hb;go_wp2_with fail;go_meet
       case rel=>exact⟨rfl,rfl⟩
     case rest=>
      obtain⟨rfl,rfl⟩:=hcut;clear hlt hget hdv hsub hm9;cases b
      ·have hend5:five=0∨X % 5≠0:=by
        rcases Nat.eq_zero_or_pos five with h|h
        ·exact .inl h
        ·right;intro h2;rw[decide_eq_true ⟨h,h2⟩]at hb;cases hb
       clear cd hb;have hl:=HL.out;subst hl;clear HL HP;have HFX:Hid (F=fitE neg X (2 ^ two*5 ^ five)):=Qh (by
        rw[HF.out,long_frac (V:=X) (two:=two) (five:=five) (by
         rw[← Nat.mul_assoc,HINV.out,Nat.mul_right_comm,HINV5.out,Nat.mul_assoc,← Nat.mul_pow]),frac_cop (cop_end HEND2.out hend5)])
       clear HF HINV HINV5 HEND2 hend5;have h2w:¬ (62:Int) < two:=(by omega);by_cases h19:(19:Int) < (Lib.decDigits X).length
       ·have HN:=Qh (show F=none by rw[HFX.out];exact fitE_num (Nat.lt_of_lt_of_le (by decide) (dec_ge (V:=X) (by omega))));obtain⟨r0,r1,r2,r3⟩:=TR.out.two;go_wp2_with fail;exact bodyPost_ret (v:=.tuple #[.agg #[.int .i64 0,.int .i64 0],errV 9]) (by simp[results,results185,go_sem,r0,r1,errV]) rfl ⟨by rw[HN.out];rfl,(HBW.out.setCell (by simp) _).setCell (by simp) _⟩
       by_cases h27:(27:Int) < five
       ·have HN:=Qh (show F=none by rw[HFX.out];exact fitE_den (by omega) (Nat.lt_of_lt_of_le (show 9223372036854775807 < 5 ^ 28 by decide) (Nat.le_trans (Nat.pow_le_pow_right (by decide) (show 28≤five by omega)) (Nat.le_mul_of_pos_left _ (Nat.pow_pos (by decide))))));obtain⟨r0,r1,r2,r3⟩:=TR.out.two;go_wp2_with fail;exact bodyPost_ret (v:=.tuple #[.agg #[.int .i64 0,.int .i64 0],errV 9]) (by simp[results,results185,go_sem,r0,r1,errV]) rfl ⟨by rw[HN.out];rfl,(HBW.out.setCell (by simp) _).setCell (by simp) _⟩
       have hXlt:X < 10000000000000000000:=dec_lt (by omega);have cp:=Tryz.strconv_ParseUint_10_at64_ok ⟨(Lib.decDigits X).toArray⟩ (by show(Lib.decDigits X).length≤_;omega) X (by
        show Lib.parseUintB 64 (Lib.decDigits X)=_;have:=pu_ok (dec_digL X) (by intro h;have h3:=dec_valL X;rw[h]at h3;simp[valL,valS]at h3;omega) (by rw[dec_valL];omega)
        rwa [dec_valL]at this)
       generalize Lib.decDigits X=L at *;go_upto_region 10 with fail
       go_wp2_with fail;with_reducible refine(cp _).mono ?_
       rintro e w1 ⟨rfl,hb1⟩;clear cp;replace hb1:=below_or hb1;have TR1:=Qh (TR.out.keep hb1 lrf);have HB1:=Qh (show Below w.heap.size w w1 from bstep HBW.out hb1 lrf);clear hb1;go_wp2_with fail;go_loopw [12,13] (fun d x ws=>∃ i:Nat,d=.int .u64 (dnN two i:Nat)∧dnN two i≤9223372036854775807∧x=.int .i64 (i:Nat)∧i≤two+five∧ws=w1) (fun _ x _=>two+five - (intOf x).toNat)
       case atStart=>exact⟨0,rfl,by simp[dnN],rfl,Nat.zero_le _,rfl⟩
       case round=>
        obtain⟨i,rfl,hd,rfl,hi,rfl⟩:=hrel;have HD:=Qh hd;have hdI:((dnN two i:Nat):Int)≤9223372036854775807:=(by omega);clear hd;by_cases hlt:(i:Int) < (two:Int)+(five:Int)
        ·have hst:=dn_step two i;by_cases hge:two≤i
         ·have hgeI:(two:Int)≤(i:Int):=(by omega);rw[if_pos hge]at hst;by_cases hov:1844674407370955161 < dnN two i
          ·have HN:=Qh (show F=none by
            rw[HFX.out,← dn_end];exact fitE_den (by omega) (Nat.lt_of_lt_of_le (by omega) (dn_mono two (i+1) (two+five) (by omega))))
           have hovI:(1844674407370955161:Int) < (dnN two i:Nat):=(by omega);clear hst;generalize dnN two i=d at *;obtain⟨r0,r1,r2,r3⟩:=TR1.out.two;go_wp2_with fail;exact bodyPost_ret (v:=.tuple #[.agg #[.int .i64 0,.int .i64 0],errV 9]) (by simp[results,results185,go_sem,r0,r1,errV]) rfl ⟨by rw[HN.out];rfl,(HB1.out.setCell (by simp) _).setCell (by simp) _⟩
          ·have HS:=Qh (And.intro hst (show dnN two i*5≤9223372036854775807 by omega));have hovI:¬ (1844674407370955161:Int) < (dnN two i:Nat):=(by omega);clear hst;generalize dnN two i=d at *;have hm:(d:Int)*5≤9223372036854775807:=(by omega);go_wp2_with fail;go_roundw;case rel=>exact⟨i+1,by rw[HS.out.1];first|rfl|go_num,by rw[HS.out.1];exact HS.out.2,by go_num,by omega,trivial⟩
           case measure=>(simp[intOf]<;>omega)
         ·have hgeI:¬ (two:Int)≤(i:Int):=(by omega);rw[if_neg hge]at hst;by_cases hov:4611686018427387903 < dnN two i
          ·have HN:=Qh (show F=none by
            rw[HFX.out,← dn_end];exact fitE_den (by omega) (Nat.lt_of_lt_of_le (by omega) (dn_mono two (i+1) (two+five) (by omega))))
           have hovI:(4611686018427387903:Int) < (dnN two i:Nat):=(by omega);clear hst;generalize dnN two i=d at *;obtain⟨r0,r1,r2,r3⟩:=TR1.out.two;go_wp2_with fail;exact bodyPost_ret (v:=.tuple #[.agg #[.int .i64 0,.int .i64 0],errV 9]) (by simp[results,results185,go_sem,r0,r1,errV]) rfl ⟨by rw[HN.out];rfl,(HB1.out.setCell (by simp) _).setCell (by simp) _⟩
          ·have HS:=Qh (And.intro hst (show dnN two i*2≤9223372036854775807 by omega));have hovI:¬ (4611686018427387903:Int) < (dnN two i:Nat):=(by omega);clear hst;generalize dnN two i=d at *;have hm:(d:Int)*2≤9223372036854775807:=(by omega);go_wp2_with fail;go_roundw;case rel=>exact⟨i+1,by rw[HS.out.1];first|rfl|go_num,by rw[HS.out.1];exact HS.out.2,by go_num,by omega,trivial⟩
           case measure=>(simp[intOf]<;>omega)
        ·obtain rfl:i=two+five:=by omega
         have HDE:=Qh (show dnN two (two+five)=2 ^ two*5 ^ five from dn_end two five);have cf:=fit_any neg X (dnN two (two+five)) (by omega) (by have:=HD.out;omega);rw[HDE.out,← HFX.out,← HDE.out,Nat.div_eq_of_lt (show X < 18446744073709551616 by omega),Nat.mod_eq_of_lt (show X < 18446744073709551616 by omega),Nat.div_eq_of_lt (show dnN two (two+five) < 18446744073709551616 by have:=HD.out;omega),Nat.mod_eq_of_lt (show dnN two (two+five) < 18446744073709551616 by have:=HD.out;omega)]at cf;clear HDE HD;generalize dnN two (two+five)=d at *;have cg:∀ w:World,Calls prog 155 #[.bool neg,.int .u64 0,.int .u64 (X:Nat),.int .u64 0,.int .u64 (d:Nat)] w fun e w'=>e=.returned (ratV F)∧Below w.heap.size w w':=cf
         clear cf HFX;go_wp2_with fail;with_reducible refine(cg _).mono ?_
         rintro e w2 ⟨rfl,hb2⟩;clear cg;have TR2:=Qh (TR1.out.keep hb2 lrf);have HB2:=Qh (show Below w.heap.size w w2 from bstep HB1.out hb2 lrf);clear hb2;obtain⟨r0,r1,r2,r3⟩:=TR2.out.two;rcases F with _|⟨x,y⟩
         ·simp only[ratV,errV];go_wp2_with fail;exact bodyPost_ret (v:=.tuple #[.agg #[.int .i64 0,.int .i64 0],errV 9]) (by simp[results,results185,go_sem,r0,r1,errV]) rfl ⟨rfl,(HB2.out.setCell (by simp) _).setCell (by simp) _⟩
         ·simp only[ratV];go_wp2_with fail;exact bodyPost_ret (v:=.tuple #[.agg #[.int .i64 x,.int .i64 y],.nilIface]) (by simp[results,results185,go_sem,r0,r1]) rfl ⟨rfl,(HB2.out.setCell (by simp) _).setCell (by simp) _⟩
      ·obtain⟨h0,h2⟩:=of_decide_eq_true hb.symm;obtain⟨t2,rfl⟩:∃ k,five=k+1:=⟨five - 1,by omega⟩
       have HNEXT:=Qh (fifth_inv HINV5.out h2);have HE2:Hid (two=0∨X / 5 % 2≠0):=Qh (by rcases HEND2.out with h|h;exact .inl h;right;omega);have cd2:=cd h2;have hq:0 < X / 5:=(by omega);have hq2:X / 5≤V:=(by omega);clear cd hb;generalize X / 5=V2 at *;have ht:((t2+1:Nat):Int) - 1=(t2:Int):=(by omega);go_wp2_with fail;with_reducible refine(cd2 _).mono ?_
       rintro e w1 ⟨rfl,rfl⟩;clear cd2;go_wp2_with fail;go_roundw;case rel=>exact⟨V2,t2,rfl,by first|rfl|go_num,by omega,hq,hq2,HNEXT.out,HE2.out,trivial⟩
       case measure=>(simp[intOf]<;>omega)
   ·obtain⟨h0,h2⟩:=of_decide_eq_true hb.symm;obtain⟨t2,rfl⟩:∃ k,two=k+1:=⟨two - 1,by omega⟩
    have HNEXT:=Qh (half_inv HINV.out h2);have cd2:=cd h2;have hq:0 < V / 2:=(by omega);have hq2:V / 2≤v:=(by omega);clear cd hb;generalize V / 2=V2 at *;have ht:((t2+1:Nat):Int) - 1=(t2:Int):=(by omega);go_wp2_with fail;with_reducible refine(cd2 _).mono ?_
    rintro e w1 ⟨rfl,rfl⟩;clear cd2;go_wp2_with fail;go_roundw;case rel=>exact⟨V2,t2,rfl,by first|rfl|go_num,by omega,hq,hq2,HNEXT.out,trivial⟩
    case measure=>simp[intOf]
set_option maxRecDepth 100000 in theorem is_nilE (n : Int) (w : World) :
  Calls prog 30 #[.nilIface,.iface 50 (.int .i64 n)] w fun e w'=>e=.returned (.bool false)∧w' = w:=by
 have he:∀ w:World,(binOp .eql 25 .nilIface (.iface 50 (.int .i64 n))).run prog w=.ok (.bool false) w:=fun w=>by kernel_rfl
 go_enter func30,ntmps30
 go_wp2_with fail;go_ret;exact⟨rfl,rfl⟩
theorem div_step {neg:Bool} {v j:Nat} {x y:Int} (h:frac neg v (10 ^ j)=some (x,y)) (w:World) :
  Calls prog 186 #[.agg #[.int .i64 x,.int .i64 y],.agg #[.int .i64 10,.int .i64 1]] w fun e w'=>e=.returned (ratV (frac neg v (10 ^ (j+1))))∧Below w.heap.size w w':=by
 have hr:=frac_right (p10 j) h;obtain⟨r1,r2,r3,r4,r5⟩:=hr;have hx:In64 x:=⟨r3,r4⟩
 have hy:In64 y:=⟨by omega,r2⟩
 have ha:rightB x y=true:=(rightB_iff x y hx hy).2 ⟨r1,r2,r3,r4,r5⟩;have hb:rightB 10 1=true:=(by decide);have hd:=div_any x y 10 1 hx hy (by unfold In64;omega) (by unfold In64;omega) w;have hs:=frac_step (p10 j) h;rw[Nat.pow_succ,← hs];unfold divV at hd;rw[ha,hb]at hd
 simpa using hd
theorem frac_zero10 {neg:Bool} {v:Nat} (h:v≤1000000000000000000):frac neg v (10 ^ 0)=some (sgn neg v,1):=by
 rw[Nat.pow_zero,frac_one];unfold fitE;by_cases h0:v=0
 ·subst h0;rw[if_pos rfl];cases neg<;>rfl
 ·rw[if_neg h0,if_neg (by omega)];rfl
theorem dec_le18 {v:Nat} (h:(Lib.decDigits v).length≤18):v < 1000000000000000000:=by
 obtain⟨k,h1,h2,h3⟩:=dec_len v;rw[h1,padD_len]at h;exact Nat.lt_of_lt_of_le h2 (Nat.pow_le_pow_right (by decide) h)
set_option maxRecDepth 100000 in theorem rsmall_any (neg : Bool) (v back : Nat) (hv : 0 < v) (hz : v % 10 ≠ 0) (hlen : (Lib.decDigits v).length ≤ 200) (hback : back ≤ 100000) (w : World) :
  Calls prog 156 #[.bool neg,.string ⟨(Lib.decDigits v).toArray⟩,.int .i64 back] w fun e w'=>e=.returned (ratV (frac neg v (10 ^ back)))∧Below w.heap.size w w':=by
 obtain⟨F,hF⟩:∃ F,F=frac neg v (10 ^ back):=⟨_,rfl⟩
 rw[← hF];have HF:=Qh hF;clear hF;obtain⟨tr,hsz,hbw⟩:=box1 w #[.int .i64 0,.int .i64 0] 87;have TR:=Qh tr;have HBW:=Qh hbw;clear tr hbw;have hvn:Lib.decDigits v≠[]:=(by intro h;have h3:=dec_valL v;rw[h]at h3;simp[valL,valS]at h3;omega);have hdv:=dec_valL v;have hdd:=dec_digL v;by_cases hb62:(62:Int) < back
 ·have HN:=Qh (show F=none by rw[HF.out];exact frac_over_den hz (by omega));clear hdv hvn hdd;go_enter func156,ntmps156
  go_wp2_with fail;generalize w.alloc (.cells #[.int .i64 0,.int .i64 0] 87)=W at *;obtain⟨r0,r1,r2,r3⟩:=TR.out.two;exact bodyPost_ret (v:=.tuple #[.agg #[.int .i64 0,.int .i64 0],errV 9]) (by simp[results,results156,go_sem,r0,r1,errV]) rfl ⟨by rw[HN.out];rfl,HBW.out⟩
 by_cases h18:(18:Int) < (Lib.decDigits v).length
 ·have cl:=long_any neg v back hv (by omega) hlen;rw[← HF.out]at cl;clear hdv hvn hdd HF;generalize Lib.decDigits v=L at *;go_enter func156,ntmps156
  go_wp2_with fail;generalize w.alloc (.cells #[.int .i64 0,.int .i64 0] 87)=W at *;go_wp2_with fail;with_reducible refine(cl _).mono ?_
  rintro e w2 ⟨rfl,hb2⟩;clear cl;have TR2:=Qh (TR.out.keep hb2 lrf);have HB2:=Qh (show Below w.heap.size w w2 from bstep HBW.out hb2 (by omega));clear hb2;obtain⟨r0,r1,r2,r3⟩:=TR2.out.two;rcases F with _|⟨x,y⟩
  ·simp only[ratV,errV];go_wp2_with fail;exact bodyPost_ret (v:=.tuple #[.agg #[.int .i64 0,.int .i64 0],errV 9]) (by simp[results,results156,go_sem,r0,r1,errV]) rfl ⟨rfl,(HB2.out.setCell (by simp) _).setCell (by simp) _⟩
  ·simp only[ratV];go_wp2_with fail;exact bodyPost_ret (v:=.tuple #[.agg #[.int .i64 x,.int .i64 y],.nilIface]) (by simp[results,results156,go_sem,r0,r1]) rfl ⟨rfl,(HB2.out.setCell (by simp) _).setCell (by simp) _⟩
 have hvlt:v < 1000000000000000000:=dec_le18 (by omega);have cp:=Tryz.strconv_ParseInt_10_at64_ok ⟨(Lib.decDigits v).toArray⟩ (by show(Lib.decDigits v).length≤_;omega) (v:Int) (by
  show Lib.parseIntB 64 (Lib.decDigits v)=_;have:=pi_ok hdd hvn (by rw[hdv];omega)
  rwa [hdv]at this)
 clear hdv hvn hdd;generalize Lib.decDigits v=L at *;go_enter func156,ntmps156
 go_wp2_with fail;generalize w.alloc (.cells #[.int .i64 0,.int .i64 0] 87)=W at *;go_wp2_with fail;with_reducible refine(cp _).mono ?_
 rintro e w1 ⟨rfl,hb1⟩;clear cp;replace hb1:Below W.heap.size W w1:=by
  rcases hb1 with rfl|⟨t,rfl⟩
  ·exact Below.refl _ _
  ·exact Joins.below_bytesWorld _ _ _ _ lrf
 have TR1:=Qh (TR.out.keep hb1 lrf);have HB1:=Qh (show Below w.heap.size w w1 from bstep HBW.out hb1 (by omega));have hs1:=Qh (show w.heap.size+1≤w1.heap.size by have:=hb1.size;omega);clear hb1 TR HBW hsz;have HSG:=Qh (frac_zero10 (neg:=neg) (v:=v) (by omega));obtain⟨x0,hx0⟩:∃ x0,x0=sgn neg v:=⟨_,rfl⟩
 rw[← hx0]at HSG;obtain⟨ta,hsz,hbw⟩:=box1 w1 #[.int .i64 x0,.int .i64 1] 87;have TA:=Qh ta;have TR2:=Qh (TR1.out.keep hbw lrf);have HB2:=Qh (show Below w.heap.size w (w1.alloc (.cells #[.int .i64 x0,.int .i64 1] 87))from bstep HB1.out hbw (by have:=hs1.out;omega));clear ta hbw TR1 HB1;go_upto_if 31 with (fail)
 go_cut [8] (fun x ws=>x=.int .i64 x0∧ws=w1)
 case first=>
  cases neg
  ·go_wp2_with fail;go_meet
   case rel=>exact⟨by rw[hx0];rfl,rfl⟩
  ·go_wp2_with fail;go_meet
   case rel=>exact⟨by rw[hx0];rfl,rfl⟩
 case rest=>
  obtain⟨rfl,rfl⟩:=hcut;clear hx0;go_upto_region 9 with fail
  generalize hA:wc.heap.size=A at *;generalize wc.alloc (.cells #[.int .i64 x0,.int .i64 1] 87)=W2 at *;clear hA;go_loopw [2] (fun x ws=>∃ j k:Nat,∃ x' y':Int,x=.int .i64 (k:Nat)∧k+j=back∧frac neg v (10 ^ j)=some (x',y')∧Blk ws w.heap.size #[.int .i64 0,.int .i64 0]∧Blk ws A #[.int .i64 x',.int .i64 y']∧Below w.heap.size w ws) (fun x _=>(intOf x).toNat)
  case atStart=>exact⟨0,back,x0,1,rfl,by omega,HSG.out,TR2.out,TA.out,HB2.out⟩
  case round=>
   obtain⟨j,k,x,y,rfl,hkj,hfr,tr,ta,hbw⟩:=hrel;obtain⟨a0,a1,a2,a3⟩:=ta.two;clear HSG TR2 TA HB2;by_cases hk:(0:Int) < k
   ·have cd:=fun w=>div_step hfr w
    have TR:=Qh tr;have TA:=Qh ta;have HB:=Qh hbw;have hKJ:=Qh hkj;clear tr ta hbw hkj;have HNEXT:=Qh (fun (hn:frac neg v (10 ^ (j+1))=none)=>show F=none by
     rw[HF.out];exact frac_mono_le (by omega) (by omega) hn back (by have:=hKJ.out;omega))
    obtain⟨G,hG⟩:∃ G,G=frac neg v (10 ^ (j+1)):=⟨_,rfl⟩
    rw[← hG]at HNEXT cd;have HG:=Qh hG;clear hG hfr;go_wp2_with fail;with_reducible refine(cd _).mono ?_
    rintro e w3 ⟨rfl,hb3⟩;clear cd a0 a1 a2 a3;have TR3:=Qh (TR.out.keep hb3 lrf);have TA3:=Qh (TA.out.keep hb3 lrf);have HB3:=Qh (show Below w.heap.size w w3 from bstep HB.out hb3 (by have:=HB.out.size;omega));clear hb3 TR TA HB;rcases G with _|⟨x2,y2⟩
    ·have HN:=Qh (HNEXT.out rfl);obtain⟨tb,hsz,hbb⟩:=box1 w3 #[.int .i64 0,.int .i64 0] 87;have TR4:=Qh (TR3.out.keep hbb lrf);have HB4:=Qh (show Below w.heap.size w (w3.alloc (.cells #[.int .i64 0,.int .i64 0] 87))from bstep HB3.out hbb (by have:=HB3.out.size;omega));clear tb hsz hbb;obtain⟨r0,r1,r2,r3⟩:=TR4.out.two;have ci:=is_errno 9 9;rw[show((9:Int) == 9)=true from rfl]at ci;simp only[ratV,errV];go_wp2_with fail;generalize w3.alloc (.cells #[.int .i64 0,.int .i64 0] 87)=W4 at *;with_reducible refine(ci _).mono ?_
     rintro e w5 ⟨rfl,rfl⟩;clear ci;go_wp2_with fail;exact bodyPost_ret (v:=.tuple #[.agg #[.int .i64 0,.int .i64 0],errV 9]) (by simp[results,results156,go_sem,r0,r1,errV]) rfl ⟨by rw[HN.out];rfl,(HB4.out.setCell (by simp) _).setCell (by simp) _⟩
    ·obtain⟨tb,hsz,hbb⟩:=box1 w3 #[.int .i64 x2,.int .i64 y2] 87;have TR4:=Qh (TR3.out.keep hbb lrf);have TA4:=Qh (TA3.out.keep hbb lrf);have TB4:=Qh tb;have HB4:=Qh (show Below w.heap.size w (w3.alloc (.cells #[.int .i64 x2,.int .i64 y2] 87))from bstep HB3.out hbb (by have:=HB3.out.size;omega));clear tb hsz hbb;obtain⟨a0,a1,a2,a3⟩:=TA4.out.two;obtain⟨b0,b1,b2,b3⟩:=TB4.out.two;have ci:=is_nilE 9;obtain⟨k2,rfl⟩:∃ k2,k=k2+1:=⟨k - 1,by omega⟩
     have hk62:(k2:Int)≤62:=(by have:=hKJ.out;omega);have ht:((k2+1:Nat):Int) - 1=(k2:Int):=(by omega);simp only[ratV];go_wp2_with fail;generalize w3.alloc (.cells #[.int .i64 x2,.int .i64 y2] 87)=W4 at *;with_reducible refine(ci _).mono ?_
     rintro e w5 ⟨rfl,rfl⟩;clear ci;go_wp2_with fail;go_roundw;case rel=>exact⟨j+1,k2,x2,y2,by first|rfl|go_num,by have:=hKJ.out;omega,HG.out.symm,(TR4.out.other (by have:=hs1.out;show A≠w.heap.size;omega) _).other (by have:=hs1.out;show A≠w.heap.size;omega) _,(TA4.out.set 0 _).set 1 _,(HB4.out.setCell (by have:=hs1.out;show w.heap.size≤A;omega) _).setCell (by have:=hs1.out;show w.heap.size≤A;omega) _⟩
     case measure=>(simp[intOf]<;>omega)
   ·obtain rfl:k=0:=by omega
    obtain rfl:j=back:=by omega
    have HN:=Qh (show F=some (x,y)by rw[HF.out,hfr]);obtain⟨r0,r1,r2,r3⟩:=tr.two;have HB:=Qh hbw;clear tr ta hbw hfr HF;go_wp2_with fail;exact bodyPost_ret (v:=.tuple #[.agg #[.int .i64 x,.int .i64 y],.nilIface]) (by simp[results,results156,go_sem,r0,r1]) rfl ⟨by rw[HN.out];rfl,(HB.out.setCell (by simp) _).setCell (by simp) _⟩
end Go.Proofs.YtkblpaabknjckaaGreatDoor
