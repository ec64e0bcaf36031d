/-
  Plain: the tokens of a document that is written, read by the parser: the same document but for places.
-/
import Derived.Test.YtkblpaabknjckaaGreatDoorCutN
import Derived.Test.YtkblpaabknjckaaGreatDoorFrmF
import Derived.Test.YtkblpaabknjckaaGreatDoorFilM
import Derived.Test.YtkblpaabknjckaaGreatDoorAppC
import Derived.Test.YtkblpaabknjckaaGreatDoorSamA
import Derived.Test.YtkblpaabknjckaaGreatDoorRlxN
import Derived.Test.YtkblpaabknjckaaGreatDoorGat6
import Derived.Test.YtkblpaabknjckaaGreatDoorBckD
set_option maxHeartbeats 128000000
set_option linter.unusedVariables false
namespace Go.Proofs.YtkblpaabknjckaaGreatDoor
open Go.RowKit Go.Shelf
theorem file_of {O:List UInt8} {T:List TokD} {d:DbD} {r:List TokD} (hw:scanL O=.good T) (hd:dbR T=.ok d r):DbBd d 1048577∧VerOK d∧fileR O=.good (nodsD d):=by
 obtain⟨a1,a2,-,-⟩:=scanL_bd hw;have hf:fileR O=match sourceR T with
  | .ok l _=>.good l
  | .bad no l c=>.bad (faultV no l c):=by unfold fileR;rw[hw];rfl
 have hsd:=source_db T;rw[hsd,hd]at hf;have hb:=db_bd hd (scanL_toks hw);exact⟨⟨hb.nam,hb.mln,hb.msg,by have:=hb.tln;omega,hb.tab⟩,db_ver hd,hf⟩
theorem read_cases (s:List UInt8) :
  (∃ T x,fileR s=.bad (.iface T x))∨(∃ T d r,scanL s=.good T∧dbR T=.ok d r∧s.length≤1048576):=by
 cases hw:scanL s with
 | bad v=>
  obtain⟨T,x,rfl⟩:=scanL_bad hw;exact .inl ⟨T,x,by unfold fileR;rw[hw]⟩
 | good T=>
  obtain⟨a1,a2,-,-⟩:=scanL_bd hw;have hf:fileR s=match sourceR T with
   | .ok l _=>.good l
   | .bad no l c=>.bad (faultV no l c):=by unfold fileR;rw[hw];rfl
  have hsd:=source_db T;rw[hsd]at hf;cases hd:dbR T with
  | bad no L C=>
   rw[hd]at hf;exact .inl ⟨_,_,hf⟩
  | ok d t=>exact .inr ⟨T,d,t,rfl,hd,a1⟩
theorem peel {T:List TokD} {k:KT2} {K:List KT2} (h:T.map ekT=k::K):∃ t T',T=t::T'∧ekT t=k∧T'.map ekT=K:=by
 cases T with
 | nil=>cases h
 | cons t T'=>
  rw[List.map_cons,List.cons.injEq]at h;exact⟨t,T',rfl,h.1,h.2⟩
theorem peel_app {T:List TokD} {K L:List KT2} (h:T.map ekT=K++L):∃ A B,T=A++B∧A.map ekT=K∧B.map ekT=L:=by
 obtain⟨A,B,h1,h2,h3⟩:=List.map_eq_append_iff.1 h;exact⟨A,B,h1,h2,h3⟩
theorem kind_k {t:TokD} {k:Int} {w:List UInt8} (h:ekT t=(k,w)):t.kind=k∧t.text=w:=⟨congrArg Prod.fst h,congrArg Prod.snd h⟩
theorem sees_k {t:TokD} {r:List TokD} {k:Int} {w:List UInt8} (h:ekT t=(k,w)) (hk:k=1∨k=4):seesB w (t::r)=true:=by
 obtain⟨h1,h2⟩:=kind_k h;unfold seesB;show(decide (t.text=w) && (t.kind == 1 || t.kind == 4))=true;rw[h1,h2];rcases hk with rfl|rfl<;>simp
theorem sees_no {t:TokD} {r:List TokD} {k:Int} {v w:List UInt8} (h:ekT t=(k,v)) (hv:v≠w):seesB w (t::r)=false:=by
 obtain⟨h1,h2⟩:=kind_k h;unfold seesB;show(decide (t.text=w) && _)=false;rw[h2,decide_eq_false hv];rfl
theorem must_k {t:TokD} {r:List TokD} {k:Int} {w:List UInt8} (h:ekT t=(k,w)) (hk:k=1∨k=4):mustR w (t::r)=.ok t r:=by
 unfold mustR;rw[if_pos (sees_k h hk)];rfl
theorem named_k {x:List UInt8} {t:TokD} {r:List TokD} (hx:wordB x=true) (h:ekT t=(1,x)):namedB (t::r)=true:=by
 obtain⟨h1,h2⟩:=kind_k h;unfold wordB at hx;rw[Bool.and_eq_true,Bool.not_eq_true']at hx;unfold namedB;show(!decide (t.text∈sixW) && t.kind == 1)=true;rw[h1,h2,show decide (x∈sixW)=false from hx.2];rfl
theorem name_k {x:List UInt8} {t:TokD} {r:List TokD} (hx:wordB x=true) (h:ekT t=(1,x)):nameR (t::r)=.ok x r:=by
 unfold nameR;rw[if_pos (named_k hx h)];have h2:(headT (t::r)).text=x:=(kind_k h).2;rw[h2];have hl:x.length≤64:=by
  have:=(word_name hx).1;unfold nameB at this;simp at this;exact this.2.2
 rw[if_pos hl];rfl
theorem numP_dec {n:Nat} (h:n < 18446744073709551616):numP (Lib.decDigits n)=(n,true):=by
 unfold numP;rw[pu_ok (dec_digL n) (dec_ne n) (by rw[dec_valL];exact h),dec_valL];simp
theorem whole_k {n below:Nat} {t:TokD} {r:List TokD} (hn:n < below) (hb:below≤18446744073709551616) (h:ekT t=(2,Lib.decDigits n)):wholeR below (t::r)=.ok n r:=by
 obtain⟨h1,h2⟩:=kind_k h;unfold wholeR;show(if t.kind=2 then (if (numP t.text).2=true∧(numP t.text).1 < below then PR.ok (numP t.text).1 r else _) else _)=_;rw[h1,h2,numP_dec (by omega),if_pos rfl,if_pos ⟨rfl,hn⟩]
theorem siz_dec {z:Int} (h:sizB z=true):∃ n:Nat,z=n∧n < 2147483648∧Lib.itoa z=Lib.decDigits n:=by
 unfold sizB at h;rw[decide_eq_true_eq]at h;obtain⟨n,rfl⟩:=Int.eq_ofNat_of_zero_le h.1;refine⟨n,rfl,by omega,?_⟩;unfold Lib.itoa;rw[if_neg (by omega)];rfl
theorem frac_k {n d:Int} {t:TokD} {r:List TokD} (h1:In64 n) (h2:In64 d) (hf:fracB n d=true) (h:ekT t=(2,fracT n d)):fracR (t::r)=.ok (n,d) r:=by
 obtain⟨e1,e2⟩:=kind_k h;unfold fracR;show(if t.kind=2 then (match fracP t.text with|(some x,_)=>PR.ok x r|(none,m)=>wrongR m (t::r)) else _)=_;rw[e1,e2,fracT_read h1 h2 hf,if_pos rfl]
theorem intP_itoa {z:Int} (h:In64 z):intP (Lib.itoa z)=some z:=by
 have hp:Lib.parseIntB 64 (Lib.itoa z)=.ok z:=by
  unfold Lib.itoa;have h1:=h.1;have h2:=h.2;by_cases h0:z < 0
  ·rw[if_pos h0,pInt_neg,pu_ok (dec_digL _) (dec_ne _) (by rw[dec_valL];omega),dec_valL];unfold endN;simp only;rw[if_neg (by omega)]
   congr 1
   omega
  ·rw[if_neg h0,pi_ok (dec_digL _) (dec_ne _) (by rw[dec_valL];omega),dec_valL]
   congr 1
   omega
 unfold intP;rw[hp];simp
theorem next_k {k:Int} {t:TokD} {r:List TokD} (hk:k≠0) (h:t.kind=k):nextR k (t::r)=.ok t r:=by
 unfold nextR;rw[if_pos ⟨h,hk⟩];rfl
def HdW (ws:List (List UInt8)) (R:List TokD):Prop:=∃ t r,R=t::r∧(t.kind=0∨∃ w∈ws,ekT t=(1,w))
theorem HdW.sees {ws:List (List UInt8)} {R:List TokD} (h:HdW ws R) {v:List UInt8} (hv:v ∉ ws):seesB v R=false:=by
 obtain⟨t,r,rfl,h|⟨w,hw,h⟩⟩:=h
 ·unfold seesB;show(_ && (t.kind == 1 || t.kind == 4))=false;rw[h];simp
 ·exact sees_no h (by rintro rfl;exact hv hw)
theorem HdW.named {ws:List (List UInt8)} {R:List TokD} (h:HdW ws R) (hw:∀ w∈ws,w∈sixW):namedB R=false:=by
 obtain⟨t,r,rfl,h|⟨w,hm,h⟩⟩:=h
 ·unfold namedB;show(_ && t.kind == 1)=false;rw[h];simp
 ·unfold namedB;show(!decide (t.text∈sixW) && _)=false;rw[(kind_k h).2,decide_eq_true (hw w hm)];rfl
theorem HdW.weak {ws vs:List (List UInt8)} {R:List TokD} (h:HdW ws R) (hw:∀ w∈ws,w∈vs):HdW vs R:=by
 obtain⟨t,r,rfl,h|⟨w,hm,h⟩⟩:=h
 ·exact⟨t,r,rfl,.inl h⟩
 ·exact⟨t,r,rfl,.inr ⟨w,hw w hm,h⟩⟩
theorem to_back:∀ (rs acc:List (List UInt8)) (T R:List TokD) (f:Nat),T.map ekT=(rs.flatMap fun y=>[(4,[44]),(1,y)])→rs.all wordB=true→seesB [44] R=false→rs.length≤f→toF f acc (T++R)=.ok (acc++rs) R
 | [],acc,T,R,f,hT,_,hR,hf=>by
  have:T=[]:=List.map_eq_nil_iff.1 hT;subst this;rw[List.nil_append,List.append_nil];cases f with
  | zero=>rfl
  | succ f=>
   show(if seesB [44] R then _ else PR.ok acc R)=_;rw[hR];rfl
 | y::rs,acc,T,R,0,hT,h,hR,hf=>by simp at hf
 | y::rs,acc,T,R,f+1,hT,h,hR,hf=>by
  rw[List.all_cons,Bool.and_eq_true]at h;rw[List.flatMap_cons]at hT;obtain⟨t1,T1,rfl,e1,hT⟩:=peel hT;obtain⟨t2,T2,rfl,e2,hT⟩:=peel hT;have ih:=to_back rs (acc++[y]) T2 R f hT h.2 hR (by simpa using hf);show(if seesB [44] (t1::(t2::T2++R)) then (nameR (t2::(T2++R))).bind fun nm ts'=>toF f (acc++[nm]) ts' else _)=_;rw[if_pos (sees_k e1 (.inr rfl)),name_k h.1 e2,PR.bind_ok,ih];simp
theorem ord_bits (m s:Bool):((ordL m s)[1]? == some 48)=m∧((ordL m s)[2]? == some 45)=s∧(ordL m s).length=3:=by
 cases m<;>cases s<;>decide
theorem rol_back {role:Int} {b:Nat} {T R:List TokD} (h:rolB role b=true) (hb:b < 18446744073709551616) (hT:T.map ekT=rolK role b) (hR:∃ t r,R=t::r∧t.kind=4):roleR (T++R)=.ok (role,b) R:=by
 unfold rolB at h;simp only[Bool.or_eq_true,Bool.and_eq_true,beq_iff_eq]at h;unfold rolK at hT;by_cases h1:role=1
 ·rw[if_pos h1]at hT;obtain⟨t1,T1,rfl,e1,hT⟩:=peel hT;have:T1=[]:=List.map_eq_nil_iff.1 hT;subst this;obtain⟨k1,k2⟩:=kind_k e1;have hb0:b=0:=by
   rcases h with h|h
   ·omega
   ·exact h.1
  subst h1 hb0;show(if t1.kind=1 then (if t1.text=[77] then PR.ok (1,0) R else _) else _)=_;rw[k1,k2,if_pos rfl,if_pos rfl]
 ·rw[if_neg h1]at hT;by_cases h2:role=2
  ·rw[if_pos h2]at hT;obtain⟨t1,T1,rfl,e1,hT⟩:=peel hT;have:T1=[]:=List.map_eq_nil_iff.1 hT;subst this;obtain⟨k1,k2⟩:=kind_k e1;subst h2;have ht:Lib.trimPrefix (109::Lib.decDigits b) [109]=Lib.decDigits b:=by
    unfold Lib.trimPrefix Lib.hasPrefix;simp
   have hp:Lib.hasPrefix (109::Lib.decDigits b) [109]=true:=by
    unfold Lib.hasPrefix;simp
   show(if t1.kind=1 then (if t1.text=[77] then _ else if Lib.hasPrefix t1.text [109]=true∧(numP (Lib.trimPrefix t1.text [109])).2=true then PR.ok (2,(numP (Lib.trimPrefix t1.text [109])).1) R else _) else _)=_;rw[k1,k2,if_pos rfl,if_neg (by simp),ht,numP_dec hb,if_pos ⟨hp,rfl⟩]
  ·rw[if_neg h2]at hT;have:T=[]:=List.map_eq_nil_iff.1 hT;subst this;obtain⟨t,r,rfl,hk⟩:=hR;have hb0:b=0∧role=0:=by
    rcases h with h|⟨h,h3|h3⟩
    ·omega
    ·omega
    ·exact⟨h,h3⟩
   obtain⟨rfl,rfl⟩:=hb0;show(if t.kind=1 then _ else PR.ok (0,0) (t::r))=_;rw[if_neg (by rw[hk];decide)]
theorem sig_back {d:SigD} {rs:List (List UInt8)} (hd:Sig64 d) (h:sigB d rs=true) {T R:List TokD} (hT:T.map ekT=sigK d rs) (hR:seesB [44] R=false):∃ x,sigR (T++R)=.ok x R∧zSig x=zSig ⟨d,rs⟩:=by
 unfold sigB allF at h;simp only[Bool.and_eq_true,beq_iff_eq]at h;obtain⟨h1,⟨f1,f2,f3,f4⟩,h3,h4,h5,h6,h7,h8⟩:=h;obtain⟨r0,rs',rfl⟩:∃ r0 rs',rs=r0::rs':=by
  cases rs with
  | nil=>simp at h7
  | cons a l=>exact⟨a,l,rfl⟩
 rw[List.all_cons,Bool.and_eq_true]at h8;unfold sigK at hT;obtain⟨t1,T,rfl,e1,hT⟩:=peel hT;obtain⟨t2,T,rfl,e2,hT⟩:=peel hT;obtain⟨A,B,rfl,eA,hB⟩:=peel_app hT;obtain⟨t3,T,rfl,e3,hT⟩:=peel hB;obtain⟨t4,T,rfl,e4,hT⟩:=peel hT;obtain⟨t5,T,rfl,e5,hT⟩:=peel hT;obtain⟨t6,T,rfl,e6,hT⟩:=peel hT;obtain⟨t7,T,rfl,e7,hT⟩:=peel hT;obtain⟨t8,T,rfl,e8,hT⟩:=peel hT;obtain⟨t9,T,rfl,e9,hT⟩:=peel hT;obtain⟨t10,T,rfl,e10,hT⟩:=peel hT;obtain⟨t11,T,rfl,e11,hT⟩:=peel hT;obtain⟨t12,T,rfl,e12,hT⟩:=peel hT;obtain⟨t13,T,rfl,e13,hT⟩:=peel hT;obtain⟨t14,T,rfl,e14,hT⟩:=peel hT;obtain⟨t15,T,rfl,e15,hT⟩:=peel hT;obtain⟨t16,T,rfl,e16,hT⟩:=peel hT;obtain⟨t17,T,rfl,e17,hT⟩:=peel hT;obtain⟨t18,T,rfl,e18,hT⟩:=peel hT;obtain⟨t19,T,rfl,e19,hT⟩:=peel hT;obtain⟨n1,z1,b1,i1⟩:=siz_dec h5;obtain⟨n2,z2,b2,i2⟩:=siz_dec h6;rw[i1]at e4;rw[i2]at e6;have hto:=to_back rs' [r0] T R (T++R).length hT h8.2 hR (by
  have:=congrArg List.length hT;have h9:∀ l:List (List UInt8),(l.flatMap fun y=>([((4:Int),[(44:UInt8)]),(1,y)]:List KT2)).length=2*l.length:=fun l=>by
   induction l with
   | nil=>rfl
   | cons a l ih=>rw[List.flatMap_cons,List.length_append,ih];simp only[List.length_cons,List.length_nil];omega
  rw[List.length_map]at this;rw[h9]at this;rw[List.length_append];omega)
 obtain⟨o1,o2,o3⟩:=ord_bits d.moto d.signed;have hord:∀ r,orderR (t7::r)=.ok (ordL d.moto d.signed) r:=fun r=>by
  obtain⟨k1,k2⟩:=kind_k e7;unfold orderR;show(if t7.kind=4∧t7.text.length=3 then PR.ok t7.text r else _)=_;rw[k1,k2,if_pos ⟨rfl,o3⟩]
 have hrol:=rol_back (R:=t3::t4::t5::t6::t7::t8::t9::t10::t11::t12::t13::t14::t15::t16::t17::t18::t19::(T++R)) h1 hd.br eA ⟨t3,_,rfl,(kind_k e3).1⟩;refine⟨⟨⟨t1.line,t1.col,d.name,d.role,d.branch,n1,n2,d.moto,d.signed,d.sn,d.sd,d.on,d.od,d.mn,d.md,d.xn,d.xd,t18.text⟩,r0::rs'⟩,?_,?_⟩
 ·have e0:t1::t2::(A++t3::t4::t5::t6::t7::t8::t9::t10::t11::t12::t13::t14::t15::t16::t17::t18::t19::T)++R=t1::t2::(A++t3::t4::t5::t6::t7::t8::t9::t10::t11::t12::t13::t14::t15::t16::t17::t18::t19::(T++R)):=(by simp);rw[e0];unfold sigR;rw[must_k e1 (.inl rfl),PR.bind_ok,name_k h4 e2,PR.bind_ok,hrol,PR.bind_ok,must_k e3 (.inr rfl),PR.bind_ok,whole_k b1 (by decide) e4,PR.bind_ok,must_k e5 (.inr rfl),PR.bind_ok,whole_k b2 (by decide) e6,PR.bind_ok,hord,PR.bind_ok,
   must_k e8 (.inr rfl),PR.bind_ok,frac_k hd.s1 hd.s2 f1 e9,PR.bind_ok,must_k e10 (.inr rfl),PR.bind_ok,frac_k hd.o1 hd.o2 f2 e11,PR.bind_ok,must_k e12 (.inr rfl),PR.bind_ok,must_k e13 (.inr rfl),PR.bind_ok,frac_k hd.m1 hd.m2 f3 e14,PR.bind_ok,
   must_k e15 (.inr rfl),PR.bind_ok,frac_k hd.x1 hd.x2 f4 e16,PR.bind_ok,must_k e17 (.inr rfl),PR.bind_ok,next_k (by decide) (kind_k e18).1,PR.bind_ok,name_k h8.1 e19,PR.bind_ok,hto,PR.bind_ok,o1,o2]
  rfl
 ·obtain⟨v0,v1,v2,v3,v4,v5,v6,v7,v8,v9,v10,v11,v12,v13,v14,v15,v16,v17⟩:=d;dsimp only at z1 z2 e18;subst z1 z2;have:=(kind_k e18).2;subst this;rfl
end Go.Proofs.YtkblpaabknjckaaGreatDoor
