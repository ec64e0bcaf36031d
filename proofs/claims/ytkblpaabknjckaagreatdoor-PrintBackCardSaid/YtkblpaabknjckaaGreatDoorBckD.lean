/-
  Plain: a document that is written, scanned: its tokens.
-/
import Derived.Test.YtkblpaabknjckaaGreatDoorCutN
import Derived.Test.YtkblpaabknjckaaGreatDoorThrM
import Derived.Test.YtkblpaabknjckaaGreatDoorPrnR
import Derived.Test.YtkblpaabknjckaaGreatDoorBaseD
set_option maxHeartbeats 128000000
set_option linter.unusedVariables false
namespace Go.Proofs.YtkblpaabknjckaaGreatDoor
open Go.RowKit Go.Shelf
def stopB (c:UInt8):Bool:=c == 10 || c == 32 || c == 41 || c == 44 || c == 58 || c == 59 || c == 64 || c == 93 || c == 124
theorem stop_not {c:UInt8} (h:stopB c=true):ldC c=false∧isDg c=false∧(c=46)=False∧isEe c=false∧stopN c=false:=by
 unfold stopB at h;simp only[Bool.or_eq_true,beq_iff_eq]at h;rcases h with (((((((rfl|rfl)|rfl)|rfl)|rfl)|rfl)|rfl)|rfl)|rfl<;>exact⟨by decide,by decide,by simp,by decide,by decide⟩
theorem tok_next {p:List UInt8} {c:UInt8} {k:Int} {t:List UInt8} (h:tokR (p++[c])=.good k t p.length) (r:List UInt8):tokR (p++c::r)=.good k t p.length:=by
 have h1:=tok_long (s:=p++[c]) (by simp) h (N:=p.length+1) (by omega) (by simp) r;rw[show p.length+1=(p++[c]).length by simp,List.take_length,List.append_assoc]at h1;exact h1
theorem allN_ld:∀ (l:List UInt8) (k:Nat),allN k l=true→∀ c∈l,ldC c=true
 | [],k,h,c,hc=>by cases hc
 | a::l,k,h,c,hc=>by
  have h2:(okN k a && allN (k+1) l)=true:=h;rw[Bool.and_eq_true]at h2;rcases List.mem_cons.1 hc with rfl|hc
  ·have h3:=h2.1;unfold okN at h3;unfold ldC;rw[Bool.or_eq_true,Bool.and_eq_true]at h3;rw[Bool.or_eq_true];rcases h3 with h3|h3
   ·exact .inl h3
   ·exact .inr h3.2
  ·exact allN_ld l (k+1) h2.2 c hc
theorem tw_all {p:UInt8→Bool}:∀ (l m:List UInt8),(∀ c∈l,p c=true)→(l++m).takeWhile p=l++m.takeWhile p
 | [],m,h=>rfl
 | a::l,m,h=>by
  rw[List.cons_append,List.takeWhile_cons,h a (List.mem_cons_self ..),if_pos rfl,tw_all l m (fun c hc=>h c (List.mem_cons_of_mem _ hc))];rfl
theorem tok_name {x:List UInt8} {c:UInt8} (hx:nameB x=true) (hc:stopB c=true):tokR (x++[c])=.good 1 x x.length:=by
 unfold nameB at hx;simp only[Bool.and_eq_true,decide_eq_true_eq]at hx;obtain⟨h1,h2,-⟩:=hx;obtain⟨a,u,rfl⟩:=List.exists_cons_of_ne_nil (List.length_pos_iff.1 h2);have ha:ltU a.toNat=true:=by
  have h3:(okN 0 a && allN 1 u)=true:=h1;rw[Bool.and_eq_true]at h3;have h4:=h3.1;unfold okN at h4
  simpa using h4
 have hn:nameN (a::(u++[c]))=(a::u).length:=by
  show(List.takeWhile ldC ((a::u)++[c])).length=_;rw[tw_all _ _ (allN_ld _ _ h1),List.takeWhile_cons,(stop_not hc).1];simp
 rw[List.cons_append,tok_bytes,if_pos ha,hn]
 congr 1
 show((a::u)++[c]).take (a::u).length=_;rw[List.take_left]
theorem sgn_first (n:Int) {d:List UInt8} (hd:digL d) (hne:d≠[]) (e:List UInt8):sgnN (sgnL n++(d++e))=(sgnL n).length:=by
 obtain⟨a,u,rfl⟩:=List.exists_cons_of_ne_nil hne;unfold sgnL;by_cases h:n < 0
 ·rw[if_pos h];rfl
 ·rw[if_neg h];show(if isSg a=true then 1 else 0)=0;rw[if_neg (by
   have h3:=(isDg_iff a).1 (hd a (List.mem_cons_self ..));unfold isSg;simp only[Bool.or_eq_true,beq_iff_eq,not_or];constructor<;>(rintro rfl;revert h3;decide))]
theorem num_starts (n:Int) {d:List UInt8} (hd:digL d) (hne:d≠[]) (e:List UInt8):∃ a u,sgnL n++(d++e)=a::u∧ltU a.toNat=false∧(dgU a.toNat || sgC a.toNat (a::u))=true:=by
 obtain⟨b,v,rfl⟩:=List.exists_cons_of_ne_nil hne;have hb:=hd b (List.mem_cons_self ..);have hb2:=(isDg_iff b).1 hb;unfold sgnL;by_cases h:n < 0
 ·rw[if_pos h];refine⟨45,(b::v)++e,rfl,by decide,?_⟩;rw[Bool.or_eq_true]
  right
  unfold sgC;show(true && dgU b.toNat)=true;exact hb
 ·rw[if_neg h];refine⟨b,v++e,rfl,?_,?_⟩
  ·rw[Bool.eq_false_iff];intro h2;rcases (ltU_iff _).1 h2 with h3|h3|h3<;>omega
  ·rw[Bool.or_eq_true]
   left
   exact hb
theorem tok_numb (n:Int) {d:List UInt8} (hd:digL d) (hne:d≠[]) (f:List UInt8) (c:UInt8) (hn:numN (sgnL n++(d++(f++[c])))=(sgnL n++(d++f)).length):tokR ((sgnL n++(d++f))++[c])=.good 2 (sgnL n++(d++f)) (sgnL n++(d++f)).length:=by
 have e:(sgnL n++(d++f))++[c]=sgnL n++(d++(f++[c])):=(by simp);obtain⟨a,u,h1,h2,h3⟩:=num_starts n hd hne (f++[c]);rw[e];have hl:0 < d.length:=List.length_pos_iff.2 hne;rw[h1,tok_bytes,if_neg (by rw[h2];decide),if_pos h3,← h1,hn,if_neg (by simp only[List.length_append];omega)]
 congr 1
 rw[← e,List.take_left]
theorem tw_stop2 {c:UInt8} (h:isDg c=false) (r:List UInt8):tw (c::r)=[]:=by
 unfold tw;rw[List.takeWhile_cons,h];rfl
theorem num2_stop {s:List UInt8} {j:Nat} {c:UInt8} (h:s[j]? = some c) (hc:stopB c=true):num2T s j=j:=by
 obtain⟨-,-,-,h4,h5⟩:=stop_not hc;unfold num2T num3T;rw[h];simp only[h4,h5];simp
theorem num_int (n:Int) {d:List UInt8} (hd:digL d) (hne:d≠[]) {c:UInt8} (hc:stopB c=true):numN (sgnL n++(d++([]++[c])))=(sgnL n++(d++[])).length:=by
 obtain⟨h1,h2,h3,h4,h5⟩:=stop_not hc;unfold numN;rw[sgn_first n hd hne,List.drop_left,(ttw_app hd _).1,List.nil_append,tw_stop2 h2,List.append_nil];have hg:(sgnL n++(d++[c]))[(sgnL n).length+d.length]? = some c:=by
  rw[List.getElem?_append_right (by omega),List.getElem?_append_right (by omega)];simp
 unfold num1T;rw[hg];simp only[h3,if_false];rw[num2_stop hg hc,List.length_append]
theorem num_point (n:Int) {d r:List UInt8} (hd:digL d) (hne:d≠[]) (hr:digL r) (hrn:r≠[]) {c:UInt8} (hc:stopB c=true):numN (sgnL n++(d++((46::r)++[c])))=(sgnL n++(d++(46::r))).length:=by
 obtain⟨h1,h2,h3,h4,h5⟩:=stop_not hc;unfold numN;rw[sgn_first n hd hne,List.drop_left,(ttw_app hd _).1,List.cons_append,tw_stop2 (by decide),List.append_nil];have hg:(sgnL n++(d++(46::(r++[c]))))[(sgnL n).length+d.length]? = some 46:=by
  rw[List.getElem?_append_right (by omega),List.getElem?_append_right (by omega)];simp
 have hdr:(sgnL n++(d++(46::(r++[c])))).drop ((sgnL n).length+d.length+1)=r++[c]:=by
  rw[show(sgnL n).length+d.length+1=(sgnL n).length+(d.length+1)by omega,← List.drop_drop,List.drop_left,← List.drop_drop,List.drop_left];rfl
 have htw:tw (r++[c])=r:=(by rw[(ttw_app hr _).1,tw_stop2 h2,List.append_nil]);have hg2:(sgnL n++(d++(46::(r++[c]))))[(sgnL n).length+d.length+(1+r.length)]? = some c:=by
  have e:(sgnL n++(d++(46::(r++[c]))))=(sgnL n++(d++(46::r)))++[c]:=(by simp);rw[e,List.getElem?_append_right (by simp;omega)];have e2:(sgnL n).length+d.length+(1+r.length) - (sgnL n++(d++46::r)).length=0:=(by simp;omega);rw[e2];rfl
 unfold num1T;rw[hg];simp only[if_true];rw[hdr,htw,if_neg hrn,num2_stop hg2 hc];simp;omega
theorem frac_shape {n d:Int} (h1:In64 n) (h2:In64 d) (h:fracB n d=true):restN d.natAbs=1∧1≤d∧Nat.gcd n.natAbs d.natAbs=1:=by
 unfold fracB at h;rw[Bool.and_eq_true]at h;obtain⟨hr,hc⟩:=h;obtain⟨a1,a2,a3,a4,a5⟩:=(rightB_iff n d h1 h2).1 hr;refine⟨?_,a1,?_⟩
 ·rcases Classical.em (restN d.natAbs=1)with h0|h0
  ·exact h0
  ·exfalso;unfold printL bodyL at hc;rw[if_neg h0]at hc;simp at hc
 ·first|exact a5|exact a2|exact a3|exact a4
theorem fracT_tok {n d:Int} (h1:In64 n) (h2:In64 d) (h:fracB n d=true) {c:UInt8} (hc:stopB c=true):tokR (fracT n d++[c])=.good 2 (fracT n d) (fracT n d).length:=by
 obtain⟨hr,hd1,-⟩:=frac_shape h1 h2 h;unfold fracT printL bodyL;rw[if_pos hr];by_cases he:d.natAbs=1
 ·rw[if_pos he];have h3:=tok_numb n (dec_digL n.natAbs) (dec_ne n.natAbs) [] c (num_int n (dec_digL _) (dec_ne _) hc)
  simpa using h3
 ·rw[if_neg he];have hk:placesN d.natAbs≠0:=fun h=>he ((one_iff (by omega) hr).1 h)
  have hm:n.natAbs % d.natAbs < d.natAbs:=Nat.mod_lt _ (by omega);have hL:longD (placesN d.natAbs) (n.natAbs % d.natAbs) d.natAbs=padD (placesN d.natAbs) (n.natAbs % d.natAbs*10 ^ placesN d.natAbs / d.natAbs):=longD_pad _ _ _ hm;have hne:longD (placesN d.natAbs) (n.natAbs % d.natAbs) d.natAbs≠[]:=by
   intro h;have:=longD_len (placesN d.natAbs) (n.natAbs % d.natAbs) d.natAbs;rw[h]at this;simp at this;omega
  have hdg:digL (longD (placesN d.natAbs) (n.natAbs % d.natAbs) d.natAbs):=(by rw[hL];exact digL_pad _ _);exact tok_numb n (dec_digL _) (dec_ne _) _ c (num_point n (dec_digL _) (dec_ne _) hdg hne hc)
theorem fracT_read {n d:Int} (h1:In64 n) (h2:In64 d) (h:fracB n d=true):fracP (fracT n d)=(some (n,d),0):=by
 obtain⟨hr,hd1,hg⟩:=frac_shape h1 h2 h;have hv:parseV (fracT n d)=okV n d:=by
  unfold fracT printL bodyL;rw[if_pos hr];have hdd:(d.natAbs:Int)=d:=(by omega);by_cases he:d.natAbs=1
  ·rw[if_pos he,parse_int n h1,show d=1 by omega]
  ·rw[if_neg he];have:=parse_point n d.natAbs h1 (by omega) (by have:=h2.2;omega) hg hr he;rw[this,hdd]
 rcases fracP_cases (fracT n d)with ⟨n',d',h3,h4⟩|⟨m,h3,h4⟩
 ·rw[hv]at h3;unfold okV at h3;simp only[Value.tuple.injEq,Array.mk.injEq,List.cons.injEq,Value.agg.injEq,Value.int.injEq,true_and,and_true]at h3;rw[h4,h3.1,h3.2]
 ·rw[hv]at h3;unfold okV errV at h3;simp at h3
theorem itoa_shape (z:Int):Lib.itoa z=sgnL z++(Lib.decDigits z.natAbs++[]):=by
 unfold Lib.itoa sgnL;by_cases h:z < 0
 ·rw[if_pos h,if_pos h];simp
 ·rw[if_neg h,if_neg h];rw[show z.toNat=z.natAbs by omega];simp
theorem itoa_tok (z:Int) {c:UInt8} (hc:stopB c=true):tokR (Lib.itoa z++[c])=.good 2 (Lib.itoa z) (Lib.itoa z).length:=by
 rw[itoa_shape];exact tok_numb z (dec_digL _) (dec_ne _) [] c (num_int z (dec_digL _) (dec_ne _) hc)
theorem dec_tok (n:Nat) {c:UInt8} (hc:stopB c=true):tokR (Lib.decDigits n++[c])=.good 2 (Lib.decDigits n) (Lib.decDigits n).length:=by
 have h:=itoa_tok (n:Int) hc;unfold Lib.itoa at h;rw[if_neg (by omega)]at h;exact h
theorem quo_tok {t:List UInt8} (h:mayN t=0) (r:List UInt8):tokR (quoL t++r)=.good 3 t (quoL t).length:=by
 show tokR (34::(escQ t++[34]++r))=_;rw[tok_bytes,if_neg (by decide),if_neg (by unfold sgC;rw[show dgU (UInt8.toNat 34)=false by decide,show(UInt8.toNat 34 == 43 || UInt8.toNat 34 == 45)=false by decide,Bool.false_and,Bool.false_or];decide),if_pos rfl];exact textR_quo h r
theorem sign_tok {c:UInt8} (h1:ltU c.toNat=false) (h2:dgU c.toNat=false) (h3:(c.toNat == 43 || c.toNat == 45)=false) (h4:c≠34) (h5:sgU c.toNat=true) (r:List UInt8):tokR (c::r)=.good 4 [c] 1:=by
 rw[tok_bytes,if_neg (by rw[h1];decide),if_neg (by unfold sgC;rw[h2,h3,Bool.false_and,Bool.false_or];decide),if_neg h4,if_pos h5]
theorem ord_tok (m s:Bool) (r:List UInt8):tokR (ordL m s++r)=.good 4 (ordL m s) 3:=by
 cases m<;>cases s<;>(show tokR (64::_)=_)<;>rw[tok_bytes]<;>rfl
abbrev KT2:Type:=Int×List UInt8
def EmR (R:List UInt8→Prop) (X:List UInt8) (K:List KT2):Prop:=∀ (O:List UInt8) (W:ScanR) (i:Nat) (acc:List TokD) (q:Int×Int) (r:List UInt8),RefI O W i acc q→O.drop i=X++r→R r→∃ (l:List TokD) (q':Int×Int),RefI O W (i+X.length) (acc++l) q'∧l.map ekT=K
def anyR (r:List UInt8):Prop:=True
def stopR (r:List UInt8):Prop:=∃ c u,r=c::u∧stopB c=true
theorem EmR.app {R R':List UInt8→Prop} {X Y:List UInt8} {K L:List KT2} (h:EmR R X K) (h':EmR R' Y L) (hR:∀ r,R' r→R (Y++r)):EmR R' (X++Y) (K++L):=fun O W i acc q r h1 h2 h3=>by
 rw[List.append_assoc]at h2;obtain⟨l,q1,g1,g2⟩:=h O W i acc q (Y++r) h1 h2 (hR r h3);obtain⟨l',q2,g3,g4⟩:=h' O W (i+X.length) (acc++l) q1 r g1 (by rw[← List.drop_drop,h2,List.drop_left]) h3;exact⟨l++l',q2,by rw[List.length_append,← Nat.add_assoc,← List.append_assoc];exact g3,by rw[List.map_append,g2,g4]⟩
theorem EmR.nil (R:List UInt8→Prop):EmR R [] []:=fun O W i acc q r h1 h2 h3=>⟨[],q,by rw[List.append_nil];exact h1,rfl⟩
theorem EmR.any {R:List UInt8→Prop} {X Y:List UInt8} {K L:List KT2} (h:EmR anyR X K) (h':EmR R Y L):EmR R (X++Y) (K++L):=h.app h' fun _ _=>trivial
theorem EmR.stop {R:List UInt8→Prop} {X Y:List UInt8} {K L:List KT2} (h:EmR stopR X K) (h':EmR R Y L) (hY:stopR Y):EmR R (X++Y) (K++L):=h.app h' fun r _=>by
 obtain⟨c,u,rfl,h2⟩:=hY;exact⟨c,u++r,rfl,h2⟩
theorem em_blank {c:UInt8} (hc:blankU c.toNat=true):EmR anyR [c] []:=fun O W i acc q r h1 h2 h3=>by
 obtain⟨hj,e1,e2⟩:=drop_head h2;obtain⟨q',g⟩:=h1.blank hj (by rw[e1];exact hc);exact⟨[],q',by rw[List.append_nil];exact g,rfl⟩
theorem em_tok {R:List UInt8→Prop} {X:List UInt8} {k:Int} {t:List UInt8} (h0:X≠[]) (h:∀ r,R r→tokR (X++r)=.good k t X.length):EmR R X [(k,t)]:=fun O W i acc q r h1 h2 h3=>by
 obtain⟨c,u,rfl⟩:=List.exists_cons_of_ne_nil h0;have ht:=h r h3;obtain⟨hj,e1,e2⟩:=drop_head (m:=u++r) h2;have hnb:blankU O[i].toNat=false:=by
  rw[e1];exact tok_nb (u:=u++r) ht
 obtain⟨-,q',g⟩:=h1.good hj hnb (by rw[h2];exact ht);exact⟨[⟨k,t,q.1,q.2⟩],q',g,rfl⟩
theorem em_stop {X:List UInt8} {k:Int} {t:List UInt8} (h0:X≠[]) (h:∀ c,stopB c=true→tokR (X++[c])=.good k t X.length):EmR stopR X [(k,t)]:=em_tok h0 fun r ⟨c,u,e,hc⟩=>by rw[e];exact tok_next (h c hc) u
theorem word_name {x:List UInt8} (h:wordB x=true):nameB x=true∧x≠[]:=by
 unfold wordB at h;rw[Bool.and_eq_true]at h;refine⟨h.1,?_⟩;rintro rfl;exact absurd h.1 (by decide)
theorem em_name {x:List UInt8} (h:nameB x=true):EmR stopR x [(1,x)]:=em_stop (by rintro rfl;exact absurd h (by decide)) fun c hc=>tok_name h hc
theorem em_word {x:List UInt8} (h:wordB x=true):EmR stopR x [(1,x)]:=em_name (word_name h).1
theorem em_dec (n:Nat):EmR stopR (Lib.decDigits n) [(2,Lib.decDigits n)]:=em_stop (dec_ne n) fun c hc=>dec_tok n hc
theorem em_itoa (z:Int):EmR stopR (Lib.itoa z) [(2,Lib.itoa z)]:=em_stop (by rw[itoa_shape];have:=dec_ne z.natAbs;simp[this]) fun c hc=>itoa_tok z hc
theorem em_frac {n d:Int} (h1:In64 n) (h2:In64 d) (h:fracB n d=true):EmR stopR (fracT n d) [(2,fracT n d)]:=em_stop (by
 unfold fracT printL bodyL;have e1:=dec_ne n.natAbs;have e2:=dec_ne (n.natAbs / d.natAbs);split
 ·split<;>simp[e1,e2]
 ·simp[e1]) fun c hc=>fracT_tok h1 h2 h hc
theorem em_quo {t:List UInt8} (h:mayN t=0):EmR anyR (quoL t) [(3,t)]:=em_tok (by unfold quoL;simp) fun r _=>quo_tok h r
theorem em_sign {c:UInt8} (h1:ltU c.toNat=false) (h2:dgU c.toNat=false) (h3:(c.toNat == 43 || c.toNat == 45)=false) (h4:c≠34) (h5:sgU c.toNat=true):EmR anyR [c] [(4,[c])]:=em_tok (by simp) fun r _=>sign_tok h1 h2 h3 h4 h5 r
theorem em_ord (m s:Bool):EmR anyR (ordL m s) [(4,ordL m s)]:=em_tok (by cases m<;>cases s<;>simp[ordL]) fun r _=>by
 have:=ord_tok m s r;cases m<;>cases s<;>exact this
theorem em_sp:EmR anyR [32] []:=em_blank (by decide)
theorem em_nl:EmR anyR [10] []:=em_blank (by decide)
theorem em_colon:EmR anyR [58] [(4,[58])]:=em_sign (by decide) (by decide) (by decide) (by decide) (by decide)
theorem em_bar:EmR anyR [124] [(4,[124])]:=em_sign (by decide) (by decide) (by decide) (by decide) (by decide)
theorem em_open:EmR anyR [40] [(4,[40])]:=em_sign (by decide) (by decide) (by decide) (by decide) (by decide)
theorem em_close:EmR anyR [41] [(4,[41])]:=em_sign (by decide) (by decide) (by decide) (by decide) (by decide)
theorem em_sqo:EmR anyR [91] [(4,[91])]:=em_sign (by decide) (by decide) (by decide) (by decide) (by decide)
theorem em_sqc:EmR anyR [93] [(4,[93])]:=em_sign (by decide) (by decide) (by decide) (by decide) (by decide)
theorem em_comma:EmR anyR [44] [(4,[44])]:=em_sign (by decide) (by decide) (by decide) (by decide) (by decide)
theorem em_semi:EmR anyR [59] [(4,[59])]:=em_sign (by decide) (by decide) (by decide) (by decide) (by decide)
def rolK (r:Int) (b:Nat):List KT2:=if r=1 then [(1,[77])] else if r=2 then [(1,109::Lib.decDigits b)] else []
def toK:List (List UInt8)→List KT2
 | []=>[]
 | x::l=>(1,x)::l.flatMap fun y=>[(4,[44]),(1,y)]
def sigK (d:SigD) (rs:List (List UInt8)):List KT2:=
 (1,[83,71,95])::(1,d.name)::(rolK d.role d.branch++((4,[58])::(2,Lib.itoa d.start)::(4,[124])::(2,Lib.itoa d.size)::(4,ordL d.moto d.signed)::(4,[40])::(2,fracT d.sn d.sd)::(4,[44])::(2,fracT d.on d.od)::(4,[41]) ::
  (4,[91])::(2,fracT d.mn d.md)::(4,[124])::(2,fracT d.xn d.xd)::(4,[93])::(3,d.unit)::toK rs))
def msgK2 (m:MsgD):List KT2:=(1,[66,79,95])::(2,numT m.id m.wide)::(1,m.name)::(4,[58])::(2,Lib.itoa m.size)::(1,m.sender)::m.sigs.flatMap fun s=>sigK s.d s.rs
def tabK (t:TabD):List KT2:=(1,[86,65,76,95])::(2,numT t.id t.wide)::(1,t.sig)::(t.rows.flatMap (fun r=>[(2,Lib.itoa r.1),(3,r.2)])++[(4,[59])])
def verK (v:VerD):List KT2:=[(1,[86,69,82,83,73,79,78]),(3,v.text)]
def staK (s:StaD):List KT2:=(1,[66,85,95])::(4,[58])::s.names.map fun x=>(1,x)
def dbK (d:DbD):List KT2:=(if d.has then verK d.ver else [])++(staK d.sta++(d.msgs.flatMap msgK2++d.tabs.flatMap tabK))
theorem stop_sp (u:List UInt8):stopR (32::u):=⟨32,u,rfl,by decide⟩
theorem stop_nl (u:List UInt8):stopR (10::u):=⟨10,u,rfl,by decide⟩
theorem stop_cons {c:UInt8} (h:stopB c=true) (u:List UInt8):stopR (c::u):=⟨c,u,rfl,h⟩
theorem mar_name (b:Nat):EmR stopR (109::Lib.decDigits b) [(1,109::Lib.decDigits b)]:=em_stop (by simp) fun c hc=>by
 have hld:∀ x∈109::Lib.decDigits b,ldC x=true:=fun x hx=>by
  rcases List.mem_cons.1 hx with rfl|hx
  ·decide
  ·have:=dec_digL b x hx;unfold ldC;rw[Bool.or_eq_true]
   right
   exact this
 have hn:nameN (109::(Lib.decDigits b++[c]))=(109::Lib.decDigits b).length:=by
  show(List.takeWhile ldC ((109::Lib.decDigits b)++[c])).length=_;rw[tw_all _ _ hld,List.takeWhile_cons,(stop_not hc).1];simp
 rw[List.cons_append,tok_bytes,if_pos (by decide),hn]
 congr 1
 show((109::Lib.decDigits b)++[c]).take (109::Lib.decDigits b).length=_;rw[List.take_left]
theorem em_rol (r:Int) (b:Nat):EmR stopR (rolL r b) (rolK r b):=by
 unfold rolL rolK;split
 ·exact em_sp.any (em_name (x:=[77]) (by decide))
 ·split
  ·exact em_sp.any (mar_name b)
  ·exact EmR.nil _
theorem em_tail:∀ (rs:List (List UInt8)),rs.all wordB=true→EmR stopR (Lib.joinTail [44] rs) (rs.flatMap fun y=>[(4,[44]),(1,y)])
 | [],_=>EmR.nil _
 | x::rs,h=>by
  rw[List.all_cons,Bool.and_eq_true]at h;have h1:=em_comma.any (em_word h.1);have h2:=em_tail rs h.2;show EmR stopR ([44]++x++Lib.joinTail [44] rs) _;rw[List.flatMap_cons];cases rs with
  | nil=>exact h1.app h2 fun r hr=>hr
  | cons y rs=>exact h1.stop h2 ⟨44,y++Lib.joinTail [44] rs,rfl,by decide⟩
theorem em_to {rs:List (List UInt8)} (h0:rs≠[]) (h:rs.all wordB=true):EmR stopR (Lib.join rs [44]) (toK rs):=by
 cases rs with
 | nil=>exact absurd rfl h0
 | cons x rs=>
  rw[List.all_cons,Bool.and_eq_true]at h;rw[Lib.join_cons];have h2:=em_tail rs h.2;show EmR stopR _ ([(1,x)]++rs.flatMap _);cases rs with
  | nil=>exact(em_word h.1).app h2 fun r hr=>hr
  | cons y rs=>exact(em_word h.1).stop h2 ⟨44,y++Lib.joinTail [44] rs,rfl,by decide⟩
structure Sig64 (d:SigD):Prop where
 br:d.branch < 18446744073709551616
 s1:In64 d.sn
 s2:In64 d.sd
 o1:In64 d.on
 o2:In64 d.od
 m1:In64 d.mn
 m2:In64 d.md
 x1:In64 d.xn
 x2:In64 d.xd
theorem em_sig {d:SigD} {rs:List (List UInt8)} (hd:Sig64 d) (h:sigB d rs=true):EmR stopR (sigT d rs) (sigK d rs):=by
 unfold sigB allF at h;simp only[Bool.and_eq_true,beq_iff_eq]at h;obtain⟨h1,⟨f1,f2,f3,f4⟩,h3,h4,h5,h6,h7,h8⟩:=h;have hrs:rs≠[]:=(by rintro rfl;simp at h7);have t1:=(em_quo h3).any (em_sp.any (em_to hrs h8));have t2:=(em_frac hd.x1 hd.x2 f4).stop (em_sqc.any (em_sp.any t1)) (stop_cons (by decide) _);have t3:=(em_frac hd.m1 hd.m2 f3).stop (em_bar.any t2) (stop_cons (by decide) _);have t4:=(em_frac hd.o1 hd.o2 f2).stop (em_close.any (em_sp.any (em_sqo.any t3))) (stop_cons (by decide) _);have t5:=(em_frac hd.s1 hd.s2 f1).stop (em_comma.any t4) (stop_cons (by decide) _);have t6:=(em_ord d.moto d.signed).any (em_sp.any (em_open.any t5));have t7:=(em_itoa d.size).stop t6 (by cases d.moto<;>cases d.signed<;>exact⟨64,_,rfl,by decide⟩);have t8:=(em_itoa d.start).stop (em_bar.any t7) (stop_cons (by decide) _);have t9:=(em_rol d.role d.branch).stop (em_sp.any (em_colon.any (em_sp.any t8))) (stop_sp _);have t10:=(em_name (x:=[83,71,95]) (by decide)).stop (em_sp.any ((em_word h4).app t9 fun r hr=>by
  unfold rolL;split
  ·exact⟨32,_,rfl,by decide⟩
  ·split
   ·exact⟨32,_,rfl,by decide⟩
   ·exact⟨32,_,rfl,by decide⟩)) (stop_sp _)
 have e1:sigT d rs=[83,71,95]++([32]++(d.name++(rolL d.role d.branch++([32]++([58]++([32]++(Lib.itoa d.start++([124]++(Lib.itoa d.size++(ordL d.moto d.signed++([32]++([40]++(fracT d.sn d.sd++([44]++(fracT d.on d.od++([41]++([32]++([91]++(fracT d.mn d.md++([124]++(fracT d.xn d.xd++([93]++([32]++(quoL d.unit++([32]++Lib.join rs [44]))))))))))))))))))))))))):=by
  unfold sigT;simp
 rw[e1]
 simpa [sigK]using t10
theorem bad_asc:(List.range 128).all (fun r=>!((decide (32≤r) && decide (r < 127)) || r == 10) || !badU r 1)=true:=by decide +kernel
def ascB (c:UInt8):Bool:=(decide (32≤c.toNat) && decide (c.toNat < 127)) || c.toNat == 10
theorem asc_fine:∀ (X:List UInt8),X.all ascB=true→fineF X.length X
 | [],_=>fine_nil _
 | c::t,h=>by
  rw[List.all_cons,Bool.and_eq_true]at h;have h1:=h.1;have hlt:c.toNat < 128:=by
   unfold ascB at h1;simp only[Bool.or_eq_true,Bool.and_eq_true,decide_eq_true_eq,beq_iff_eq]at h1;omega
  have h2:=List.all_eq_true.1 bad_asc c.toNat (List.mem_range.2 hlt);have h3:((decide (32≤c.toNat) && decide (c.toNat < 127)) || c.toNat == 10)=true:=h1;rw[h3]at h2;refine fine_app 1 [c] t _ lrf lrf (fine_one c hlt (by simpa using h2)) (asc_fine t h.2)
def Fi (X:List UInt8):Prop:=fineF X.length X
theorem Fi.app {X Y:List UInt8} (h:Fi X) (h':Fi Y):Fi (X++Y):=fine_app _ _ _ _ lrf lrf h h'
theorem Fi.cons {c:UInt8} {Y:List UInt8} (h:ascB c=true) (h':Fi Y):Fi (c::Y):=Fi.app (X:=[c]) (asc_fine [c] (by simp[h])) h'
theorem Fi.nil:Fi []:=fine_nil _
theorem fi_all {X:List UInt8} (h:∀ c∈X,ascB c=true):Fi X:=asc_fine X (List.all_eq_true.2 h)
theorem ld_asc {c:UInt8} (h:ldC c=true):ascB c=true:=by
 unfold ldC at h;rw[Bool.or_eq_true,ltU_iff,dgU_iff]at h;unfold ascB;rw[Bool.or_eq_true,Bool.and_eq_true,decide_eq_true_eq,decide_eq_true_eq]
 left
 omega
theorem fi_name {x:List UInt8} (h:nameB x=true):Fi x:=fi_all fun c hc=>ld_asc (allN_ld x 0 (by unfold nameB at h;rw[Bool.and_eq_true]at h;exact h.1) c hc)
theorem fi_word {x:List UInt8} (h:wordB x=true):Fi x:=fi_name (word_name h).1
theorem fi_dig {x:List UInt8} (h:digL x):Fi x:=fi_all fun c hc=>ld_asc (by unfold ldC;rw[Bool.or_eq_true];right;exact h c hc)
theorem fi_dec (n:Nat):Fi (Lib.decDigits n):=fi_dig (dec_digL n)
theorem fi_sgn (z:Int):Fi (sgnL z):=by
 unfold sgnL;split
 ·exact asc_fine [45] (by decide)
 ·exact Fi.nil
theorem fi_itoa (z:Int):Fi (Lib.itoa z):=by
 rw[itoa_shape];exact(fi_sgn z).app ((fi_dec _).app Fi.nil)
theorem fi_frac (n d:Int) (hd:1≤d):Fi (fracT n d):=by
 unfold fracT printL bodyL;refine(fi_sgn n).app ?_;split
 ·split
  ·exact fi_dec _
  ·refine(fi_dec _).app (Fi.cons (by decide) (fi_dig ?_));rw[longD_pad _ _ _ (Nat.mod_lt _ (by omega))];exact digL_pad _ _
 ·exact(fi_dec _).app (Fi.cons (by decide) (fi_dec _))
theorem fi_quo {t:List UInt8} (h:mayN t=0):Fi (quoL t):=quo_fine h
theorem fi_ord (m s:Bool):Fi (ordL m s):=asc_fine _ (by cases m<;>cases s<;>decide)
theorem fi_rol (r:Int) (b:Nat):Fi (rolL r b):=by
 unfold rolL;split
 ·exact asc_fine _ (by decide)
 ·split
  ·exact Fi.cons (by decide) (Fi.cons (by decide) (fi_dec b))
  ·exact Fi.nil
theorem fi_flat {α:Type} {f:α→List UInt8}:∀ (l:List α),(∀ x∈l,Fi (f x))→Fi (l.flatMap f)
 | [],_=>Fi.nil
 | x::l,h=>by
  rw[List.flatMap_cons];exact(h x (List.mem_cons_self ..)).app (fi_flat l fun y hy=>h y (List.mem_cons_of_mem _ hy))
theorem fi_tail:∀ (rs:List (List UInt8)),rs.all wordB=true→Fi (Lib.joinTail [44] rs)
 | [],_=>Fi.nil
 | x::rs,h=>by
  rw[List.all_cons,Bool.and_eq_true]at h;exact(Fi.cons (by decide) (fi_word h.1)).app (fi_tail rs h.2)
theorem fi_join {rs:List (List UInt8)} (h:rs.all wordB=true):Fi (Lib.join rs [44]):=by
 cases rs with
 | nil=>exact Fi.nil
 | cons x rs=>
  rw[List.all_cons,Bool.and_eq_true]at h;rw[Lib.join_cons];exact(fi_word h.1).app (fi_tail rs h.2)
theorem fi_sig {d:SigD} {rs:List (List UInt8)} (hd:Sig64 d) (h:sigB d rs=true):Fi (sigT d rs):=by
 unfold sigB allF at h;simp only[Bool.and_eq_true,beq_iff_eq]at h;obtain⟨h1,⟨f1,f2,f3,f4⟩,h3,h4,h5,h6,h7,h8⟩:=h;have g1:=fi_frac d.sn d.sd (frac_shape hd.s1 hd.s2 f1).2.1;have g2:=fi_frac d.on d.od (frac_shape hd.o1 hd.o2 f2).2.1;have g3:=fi_frac d.mn d.md (frac_shape hd.m1 hd.m2 f3).2.1;have g4:=fi_frac d.xn d.xd (frac_shape hd.x1 hd.x2 f4).2.1;have a:∀ X:List UInt8,X.all ascB=true→Fi X:=fun X h=>asc_fine X h
 unfold sigT;exact(a _ (by decide)).app ((fi_word h4).app ((fi_rol _ _).app ((a _ (by decide)).app ((fi_itoa _).app ((a _ (by decide)).app ((fi_itoa _).app ((fi_ord _ _).app ((a _ (by decide)).app (g1.app ((a _ (by decide)).app (g2.app ((a _ (by decide)).app (g3.app ((a _ (by decide)).app (g4.app ((a _ (by decide)).app ((fi_quo h3).app ((a _ (by decide)).app (fi_join h8)))))))))))))))))))
theorem fi_num (id:Nat) (w:Bool):Fi (numT id w):=fi_dec _
theorem em_flat {α:Type} {f:α→List UInt8} {g:α→List KT2}:∀ (l:List α),(∀ x∈l,EmR anyR (f x) (g x))→EmR anyR (l.flatMap f) (l.flatMap g)
 | [],_=>EmR.nil _
 | x::l,h=>by
  rw[List.flatMap_cons,List.flatMap_cons];exact(h x (List.mem_cons_self ..)).any (em_flat l fun y hy=>h y (List.mem_cons_of_mem _ hy))
theorem em_line {X:List UInt8} {K:List KT2} (h:EmR stopR X K):EmR anyR (X++[10]) K:=by
 have:=h.stop em_nl (stop_nl [])
 rwa [List.append_nil]at this
theorem em_num (id:Nat) (w:Bool):EmR stopR (numT id w) [(2,numT id w)]:=em_dec _
theorem em_msgH {m:MsgD} (h2:wordB m.name=true) (h3:wordB m.sender=true):EmR stopR (msgH m) [(1,[66,79,95]),(2,numT m.id m.wide),(1,m.name),(4,[58]),(2,Lib.itoa m.size),(1,m.sender)]:=by
 have t1:=(em_itoa m.size).stop (em_sp.any (em_word h3)) (stop_sp _);have t2:=(em_word h2).stop (em_colon.any (em_sp.any t1)) (stop_cons (by decide) _);have t3:=(em_num m.id m.wide).stop (em_sp.any t2) (stop_sp _);have t4:=(em_name (x:=[66,79,95]) (by decide)).stop (em_sp.any t3) (stop_sp _);have e:msgH m=[66,79,95]++([32]++(numT m.id m.wide++([32]++(m.name++([58]++([32]++(Lib.itoa m.size++([32]++m.sender)))))))):=(by unfold msgH;simp);rw[e]
 simpa using t4
def Db64 (d:DbD):Prop:=(∀ m∈d.msgs,∀ s∈m.sigs,Sig64 s.d)∧∀ t∈d.tabs,∀ r∈t.rows,In64 r.1
theorem msg_lines (m:MsgD):linesT (msgL m)=[10]++((msgH m++[10])++m.sigs.flatMap fun s=>[32]++(sxT s++[10])):=by
 unfold msgL linesT;rw[List.flatMap_cons,List.flatMap_cons,List.flatMap_map];simp
theorem em_msg {m:MsgD} (h:msgB m=true) (h6:∀ s∈m.sigs,Sig64 s.d):EmR anyR (linesT (msgL m)) (msgK2 m)∧Fi (linesT (msgL m)):=by
 unfold msgB at h;simp only[Bool.and_eq_true]at h;obtain⟨h1,h2,h3,h4,h5,h7⟩:=h;rw[msg_lines];constructor
 ·have t:=em_nl.any ((em_line (em_msgH h2 h3)).any (em_flat m.sigs (f:=fun s=>[32]++(sxT s++[10])) (g:=fun s=>sigK s.d s.rs) fun s hs=>em_sp.any (em_line (em_sig (h6 s hs) (List.all_eq_true.1 h7 s hs)))));exact t
 ·have a:∀ X:List UInt8,X.all ascB=true→Fi X:=fun X h=>asc_fine X h
  refine(a _ (by decide)).app ((Fi.app ?_ (a _ (by decide))).app (fi_flat _ fun s hs=>(a _ (by decide)).app ((fi_sig (h6 s hs) (List.all_eq_true.1 h7 s hs)).app (a _ (by decide)))));unfold msgH;exact(a _ (by decide)).app ((fi_num _ _).app ((a _ (by decide)).app ((fi_word h2).app ((a _ (by decide)).app ((fi_itoa _).app ((a _ (by decide)).app (fi_word h3)))))))
theorem em_tab {t:TabD} (h:tabB t=true):EmR anyR (tabT t++[10]) (tabK t)∧Fi (tabT t++[10]):=by
 unfold tabB at h;simp only[Bool.and_eq_true]at h;obtain⟨h1,h2,h3,h4⟩:=h;have hr:∀ r∈t.rows,mayN r.2=0:=fun r hr=>by simpa [rowB]using List.all_eq_true.1 h4 r hr
 constructor
 ·have r1:EmR anyR (t.rows.flatMap rowT) (t.rows.flatMap fun r=>[(2,Lib.itoa r.1),(3,r.2)]):=em_flat t.rows fun r hm=>em_sp.any ((em_itoa r.1).stop (em_sp.any (em_quo (hr r hm))) (stop_sp _))
  have r2:=r1.any (em_sp.any (em_semi.any em_nl));have hst:stopR (t.rows.flatMap rowT++([32]++([59]++[10]))):=by
   cases t.rows with
   | nil=>exact⟨32,_,rfl,by decide⟩
   | cons r l=>exact⟨32,_,rfl,by decide⟩
  have t2:=(em_word h2).stop r2 hst;have t3:=(em_num t.id t.wide).stop (em_sp.any t2) (stop_sp _);have t4:=(em_name (x:=[86,65,76,95]) (by decide)).stop (em_sp.any t3) (stop_sp _);have e:tabT t++[10]=[86,65,76,95]++([32]++(numT t.id t.wide++([32]++(t.sig++(t.rows.flatMap rowT++([32]++([59]++[10]))))))):=(by unfold tabT;simp);rw[e]
  simpa [tabK]using t4
 ·have a:∀ X:List UInt8,X.all ascB=true→Fi X:=fun X h=>asc_fine X h
  unfold tabT;exact Fi.app ((a _ (by decide)).app ((fi_num _ _).app ((a _ (by decide)).app ((fi_word h2).app ((fi_flat _ fun r hm=>Fi.cons (by decide) ((fi_itoa _).app (Fi.cons (by decide) (fi_quo (hr r hm))))).app (a _ (by decide))))))) (a _ (by decide))
theorem em_names:∀ (l:List (List UInt8)),l.all wordB=true→EmR stopR (l.flatMap fun x=>32::x) (l.map fun x=>(1,x))
 | [],_=>EmR.nil _
 | x::l,h=>by
  rw[List.all_cons,Bool.and_eq_true]at h;have h1:=em_sp.any (em_word h.1);have h2:=em_names l h.2;rw[List.flatMap_cons,List.map_cons];cases l with
  | nil=>exact h1.app h2 fun r hr=>hr
  | cons y l=>exact h1.stop h2 ⟨32,_,rfl,by decide⟩
theorem em_sta {s:StaD} (h:staB s=true):EmR anyR (staT s++[10]) (staK s)∧Fi (staT s++[10]):=by
 unfold staB at h;constructor
 ·have t1:=(em_name (x:=[66,85,95]) (by decide)).stop (em_colon.any (em_names s.names h)) (stop_cons (by decide) _);have t2:=em_line t1;have e:staT s++[10]=([66,85,95]++([58]++s.names.flatMap fun x=>32::x))++[10]:=(by unfold staT;simp);rw[e];exact t2
 ·unfold staT;exact Fi.app ((show Fi [66,85,95,58]from asc_fine _ (by decide)).app (fi_flat _ fun x hx=>Fi.cons (by decide) (fi_word (List.all_eq_true.1 h x hx)))) (asc_fine _ (by decide))
theorem em_ver {v:VerD} (h:verB v=true):EmR anyR (verT v++[10]) (verK v)∧Fi (verT v++[10]):=by
 have h0:mayN v.text=0:=(by simpa [verB]using h);constructor
 ·have t1:=(em_name (x:=[86,69,82,83,73,79,78]) (by decide)).stop (em_sp.any ((em_quo h0).any em_nl)) (stop_sp _);have e:verT v++[10]=[86,69,82,83,73,79,78]++([32]++(quoL v.text++[10])):=(by unfold verT;simp);rw[e];exact t1
 ·unfold verT;exact Fi.app ((show Fi [86,69,82,83,73,79,78,32]from asc_fine _ (by decide)).app (fi_quo h0)) (asc_fine _ (by decide))
theorem em_db {d:DbD} (h:dbB d=true) (h6:Db64 d):EmR anyR (dbT d) (dbK d)∧Fi (dbT d):=by
 unfold dbB at h;simp only[Bool.and_eq_true,Bool.or_eq_true,Bool.not_eq_true']at h;obtain⟨h1,h2,h3,h4,h5⟩:=h;have hm:∀ m∈d.msgs,_:=fun m hm=>em_msg (List.all_eq_true.1 h4 m hm) (h6.1 m hm)
 have ht:∀ t∈d.tabs,_:=fun t ht=>em_tab (List.all_eq_true.1 h5 t ht)
 have a1:EmR anyR (if d.has then verT d.ver++[10] else []) (if d.has then verK d.ver else [])∧Fi (if d.has then verT d.ver++[10] else []):=by
  rcases h1 with h1|h1
  ·rw[h1];exact⟨EmR.nil _,Fi.nil⟩
  ·cases d.has
   ·exact⟨EmR.nil _,Fi.nil⟩
   ·exact em_ver h1
 have a2:EmR anyR (if d.tabs.isEmpty then [] else [10]) []∧Fi (if d.tabs.isEmpty then [] else [10]):=by
  cases d.tabs.isEmpty
  ·exact⟨em_nl,asc_fine _ (by decide)⟩
  ·exact⟨EmR.nil _,Fi.nil⟩
 unfold dbT dbHead dbK;constructor
 ·rw[List.append_assoc];exact a1.1.any ((em_sta h2).1.any ((em_flat _ fun m hm'=>(hm m hm').1).any (a2.1.any (em_flat _ fun t ht'=>(ht t ht').1))))
 ·exact(a1.2.app (em_sta h2).2).app ((fi_flat _ fun m hm'=>(hm m hm').2).app (a2.2.app (fi_flat _ fun t ht'=>(ht t ht').2)))
theorem back_scan {d:DbD} (h:dbB d=true) (h6:Db64 d) (hl:(dbT d).length≤1048576):∃ (l:List TokD) (q:Int×Int),scanL (dbT d)=.good (l++[endTok q])∧l.map ekT=dbK d:=by
 obtain⟨h1,h2⟩:=em_db h h6;obtain⟨l,q,h3,h4⟩:=h1 (dbT d) (scanL (dbT d)) 0 [] (1,1) [] (ref_start hl h2) (by simp) trivial;exact⟨l,q,h3.fin (by simp),h4⟩
end Go.Proofs.YtkblpaabknjckaaGreatDoor
