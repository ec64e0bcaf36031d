/-
  Layer 7: print.join, print.fractions: contracts.
-/
import Derived.Test.YtkblpaabknjckaaGreatDoorBaseD
import Derived.Test.YtkblpaabknjckaaGreatDoorPrnF
import Derived.Test.YtkblpaabknjckaaGreatDoorRplE
import Derived.Test.YtkblpaabknjckaaGreatDoorTxtP
import Derived.Test.YtkblpaabknjckaaGreatDoorChrE
import Derived.Test.YtkblpaabknjckaaGreatDoorThrM
import Derived.Test.YtkblpaabknjckaaGreatDoorListTxt
import Derived.Lib.IndexAny
set_option maxHeartbeats 128000000
set_option linter.unusedVariables false
namespace Go.Proofs.YtkblpaabknjckaaGreatDoor
open Go.Proofs.Tryz
open Go.RowKit Go.Shelf
def rolB (r:Int) (b:Nat):Bool:=r == 2 || (b == 0 && (r == 1 || r == 0))
def rolV (r:Int) (b:Nat):Value:=.tuple #[.string ⟨(if rolB r b then rolL r b else []).toArray⟩,.bool (rolB r b)]
theorem role_any (d:SigD) (tv:Value) (hb:d.branch < 18446744073709551616) (w:World) (htab:PowTab w) :
  Calls prog 115 #[d.agg tv] w fun e w'=>e=.returned (rolV d.role d.branch)∧Below w.heap.size w w':=by
 obtain⟨v0,v1,v2,r,b,v5,v6,v7,v8,v9,v10,v11,v12,v13,v14,v15,v16,v17⟩:=d;unfold SigD.agg;simp only at hb ⊢;have HB:=Qh (fun o=>(Below.refl w.heap.size w).alloc lrf o);by_cases h2:r=2
 ·subst h2;have HR:=Qh (show rolV 2 b=.tuple #[.string ⟨(32::109::Lib.decDigits b).toArray⟩,.bool true]from rfl);generalize rolV 2 b=R at *;have c:=fun o=>fmtUint_any b hb (w.alloc o) (PowTab.keep htab (HB.out o))
  have hst:(⟨#[32,109]⟩:ByteArray)++⟨(Lib.decDigits b).toArray⟩=⟨(32::109::Lib.decDigits b).toArray⟩:=strA [32,109] _;have hl:(Lib.decDigits b).length≤20:=dec_len64 (by omega);generalize Lib.decDigits b=D at *;clear htab;go_enter func115,ntmps115
  go_wp2_with fail;with_reducible refine(c _).mono ?_
  rintro e w1 ⟨rfl,hb⟩;have hb2:=bstep (HB.out _) hb (by simp);go_wp2_with fail;go_ret2
  exact⟨congrArg Ending.returned HR.out.symm,hb2⟩
 have h2':(r == 2)=false:=(by rw[beq_eq_false_iff_ne];omega);clear htab;by_cases h0:b=0
 ·subst h0;by_cases h1:r=1
  ·subst h1;have HR:=Qh (show rolV 1 0=.tuple #[.string ⟨#[32,77]⟩,.bool true]from rfl);generalize rolV 1 0=R at *;clear h2';go_enter func115,ntmps115
   go_wp2_with fail;go_ret2
   exact⟨congrArg Ending.returned HR.out.symm,HB.out _⟩
  ·have h1':(r == 1)=false:=(by rw[beq_eq_false_iff_ne];omega);have HR:=Qh (show rolV r 0=.tuple #[.string ⟨#[]⟩,.bool (r == 0)]by unfold rolV rolB rolL;rw[h1',h2',if_neg h1,if_neg h2];simp);generalize rolV r 0=R at *;go_enter func115,ntmps115
   go_wp2_with fail;go_region_with fail
   go_wp2_with fail;go_ret2
   refine⟨congrArg Ending.returned HR.out.symm,?_⟩;first|exact HB.out _|exact Go.below_drewN (HB.out _) _|exact(HB.out _).drewN _|exact(HB.out _).drew
 ·have h0':((b:Int) == 0)=false:=(by rw[beq_eq_false_iff_ne];omega);have HR:=Qh (show rolV r b=.tuple #[.string ⟨#[]⟩,.bool false]by unfold rolV rolB;rw[h2',show(b == 0)=false by rw[beq_eq_false_iff_ne];exact h0];simp);generalize rolV r b=R at *;go_enter func115,ntmps115
  go_wp2_with fail;go_ret2
  exact⟨congrArg Ending.returned HR.out.symm,HB.out _⟩
def goodB:UnqR→Bool
 | .bad _=>false
 | .good _=>true
set_option maxRecDepth 100000 in theorem quoted_any (s : List UInt8) (hs : s.length ≤ 100000000) (w : World) (hT : TabsU w) :
  Calls prog 51 #[.string ⟨s.toArray⟩] w fun e w'=>e=.returned (.tuple #[.string ⟨(quoL s).toArray⟩,.bool (goodB (unqL (quoL s)))])∧Below w.heap.size w w':=by
 have cq:=quote_any s (by omega) w;have hql:(quoL s).length≤1000000000:=by
  have h1:=escQ_len s;have h2:cqL s≤2*s.length:=by
   unfold cqL;have:=List.count_le_length (a:=(34:UInt8)) (l:=s);have:=List.count_le_length (a:=(92:UInt8)) (l:=s);omega
  simp only[quoL,List.length_append,List.length_cons,List.length_nil];omega
 have cu:=fun W hW=>unquote_any (quoL s) hql W hW
 have hk:=fun W (h:Below w.heap.size w W)=>TabsU.keep hT h
 have HG:=Qh (show ∀ U:UnqR,goodB U=(match U with | .bad _=>false | .good _=>true)from fun U=>by cases U<;>rfl);generalize unqL (quoL s)=U at *;obtain⟨G,hG⟩:∃ G,G=goodB U:=⟨_,rfl⟩
 rw[← hG];generalize quoL s=Q at *;go_enter func51,ntmps51
 go_wp2_with fail;(with_reducible refine cq.mono ?_);rintro e w1 ⟨rfl,hb⟩;have cu1:=cu w1 (hk w1 hb);clear cu hk cq hT;go_wp2_with fail;(with_reducible refine cu1.mono ?_);rintro e w2 ⟨rfl,hb2⟩;have hb3:=bstep hb hb2 lrf;clear cu1;cases U with
 | bad n=>
  have HG2:=Qh (show G=false from hG);clear hG HG;unfold unqV errV;go_wp2_with fail;all_goals (try go_region_with fail)
  all_goals (try go_wp2_with fail)
  go_ret2
  refine⟨by rw[HG2.out]<;>rfl,?_⟩;first|exact hb3|exact hb3.trans (Go.below_drewN (Below.refl _ _) _)|exact bstep hb3 (Go.below_drewN (Below.refl _ _) _) lrf
 | good l=>
  have HG2:=Qh (show G=true from hG);clear hG HG;unfold unqV;go_wp2_with fail;all_goals (try go_region_with fail)
  all_goals (try go_wp2_with fail)
  go_ret2
  refine⟨by rw[HG2.out]<;>rfl,?_⟩;first|exact hb3|exact hb3.trans (Go.below_drewN (Below.refl _ _) _)|exact bstep hb3 (Go.below_drewN (Below.refl _ _) _) lrf
theorem unqE_escQ:∀ (t acc:List UInt8),unq acc (escQ t++[34])=some (acc++t,[34])
 | [],acc=>by rw[List.append_nil];exact unq_quote acc []
 | c::t,acc=>by
  have e1:escQ (c::t)=escB c++escQ t:=rfl;have ih:=unqE_escQ t;rw[e1,List.append_assoc];unfold escB;split
  ·rename_i hc
   have h:unq acc ([92,c]++(escQ t++[34]))=if c=34∨c=92 then unq (acc++[c]) (escQ t++[34]) else none:=unq_esc
   rw[h,if_pos hc.symm,ih,List.append_assoc];rfl
  ·rename_i hc
   have h:unq acc ([c]++(escQ t++[34]))=unq (acc++[c]) (escQ t++[34]):=unq_plain (fun h=>hc (.inr h)) (fun h=>hc (.inl h));rw[h,ih,List.append_assoc];rfl
theorem unqF_quo (t:List UInt8):unqL (quoL t)=unqFin t:=by
 have e:∃ a u,escQ t++[34]=a::u:=by
  cases h:escQ t with
  | nil=>exact⟨34,[],rfl⟩
  | cons a u=>exact⟨a,u++[34],rfl⟩
 obtain⟨a,u,e⟩:=e;have h2:=unqE_escQ t [];unfold quoL;rw[e]at h2 ⊢;show unqEnd (unq [] (a::u))=_;rw[h2];rfl
theorem good_quo (t:List UInt8):goodB (unqL (quoL t))=(mayN t == 0):=by
 rw[unqF_quo];unfold unqFin;by_cases h:mayN t=0
 ·rw[if_pos h,h];rfl
 ·rw[if_neg h];exact(bN h).symm
theorem printL7_len (n:Int) (d:Nat) (hn:In64 n) (h1:1≤d) (h2:d≤9223372036854775807):(printL n d).length≤100:=by
 have hs:(sgnL n).length≤1:=(by unfold sgnL;split<;>simp);have hA:(Lib.decDigits n.natAbs).length≤20:=dec_len64 (by have:=hn.1;have:=hn.2;omega);have hd:(Lib.decDigits d).length≤20:=dec_len64 (by omega);have hq:n.natAbs / d≤n.natAbs:=Nat.div_le_self _ _;have hQ:(Lib.decDigits (n.natAbs / d)).length≤20:=dec_len64 (by have:=hn.1;have:=hn.2;omega);have hk:=places_le h1 h2;unfold printL bodyL;rw[List.length_append];split
 ·split
  ·omega
  ·rw[List.length_append,List.length_cons,longD_len];omega
 ·rw[List.length_append,List.length_cons];omega
def fracB (n d:Int):Bool:=rightB n d && !(printL n d.natAbs).contains 47
def fracT (n d:Int):List UInt8:=printL n d.natAbs
theorem frac7_len (n d:Int) (h1:In64 n) (h2:In64 d) (h:fracB n d=true):(fracT n d).length≤100:=by
 unfold fracB at h;rw[Bool.and_eq_true]at h;obtain⟨a1,a2,a3,a4,a5⟩:=(rightB_iff n d h1 h2).1 h.1;exact printL7_len n d.natAbs h1 (by omega) (by have:=h2.2;omega)
theorem itoaP_any (n:Int) (h:In64 n) (w:World) (hp:PowTab w) :
  Calls prog 87 #[.int .i64 n] w fun e w'=>e=.returned (.string ⟨(Lib.itoa n).toArray⟩)∧Below w.heap.size w w':=
 (Tryz.strconv_Itoa n h.1 h.2 w hp).mono fun e w' ⟨he,k,os,hw⟩=>⟨he,by rw[hw];exact below_growN w k os⟩
theorem sjoin_any (sep:List UInt8) (l:List (List UInt8)) (n:Nat) (hn:n=l.length) (a:Option Addr) (cap:Nat) (w:World) (hs:SlX w a cap l) (hl:(Lib.join l sep).length≤1000000000) (hl2:l.length≤1000000000) :
  Calls prog 55 #[.slice a n cap,.string ⟨sep.toArray⟩] w fun e w'=>e=.returned (.string ⟨(Lib.join l sep).toArray⟩)∧Below w.heap.size w w':=by
 subst hn;have h0:=hs.le;have h1:=hs.max;cases l with
 | nil=>exact(Tryz.strings_Join_none a cap _ w).mono fun e w' ⟨he,hw⟩=>⟨he,hw ▸ Below.refl _ _⟩
 | cons x r=>
  obtain⟨b,o,rfl,hb,-⟩:=SlX.at hs (k:=0) (by simp);have e1:(((x::r).map fun y:List UInt8=>(⟨y.toArray⟩:ByteArray)).map fun y=>y.data.toList)=x::r:=by
   rw[List.map_map];exact(List.map_congr_left fun y _=>rfl).trans (List.map_id _)
  have h9:(x::r).length≤1000000000:=hl2;have c:=Tryz.strings_Join b o cap ((x::r).map fun y:List UInt8=>(⟨y.toArray⟩:ByteArray)) ⟨sep.toArray⟩ w (fun j y hj=>by
   rw[List.getElem?_map]at hj;obtain⟨z,hz,rfl⟩:=Option.map_eq_some_iff.1 hj;obtain⟨hlt,rfl⟩:=List.getElem?_eq_some_iff.1 hz;obtain⟨b',o',e,_,hc⟩:=SlX.at hs hlt;cases e
   exact hc) hb (by rw[List.length_map];omega) (by rw[List.length_map];exact h0) (by rw[e1];exact Nat.le_trans hl (by decide))
  rw[e1,List.length_map]at c;exact c
theorem pjoin_any (sep:List UInt8) (l:List (List UInt8)) (n:Nat) (hn:n=l.length) (a:Option Addr) (cap:Nat) (w:World) (hs:SlX w a cap l) (hl:(Lib.join l sep).length≤1000000000) (hl2:l.length≤1000000000) :
  Calls prog 24 #[.string ⟨sep.toArray⟩,.slice a n cap] w fun e w'=>e=.returned (.string ⟨(Lib.join l sep).toArray⟩)∧Below w.heap.size w w':=by
 have c:=sjoin_any sep l n hn a cap w hs hl hl2;generalize Lib.join l sep=J at *;clear hs hl hl2 hn;go_enter func24,ntmps24
 go_wp2_with fail;(with_reducible refine c.mono ?_);rintro e w1 ⟨rfl,hb⟩;go_wp2_with fail;go_ret;exact⟨rfl,hb⟩
def enRt (x:Int×Int):List Value:=[.int .i64 x.1,.int .i64 x.2]
abbrev SlRt (w:World) (a:Option Addr) (cap:Nat) (l:List (Int×Int)):Prop:=SlOf w enRt 2 a cap l
theorem SlRt.at {w:World} {a:Option Addr} {cap:Nat} {l:List (Int×Int)} (h:SlRt w a cap l) {k:Nat} (hk:k < l.length) :
  ∃ b o,a=some ⟨b,o,none⟩∧b < w.heap.size∧w.cell? ⟨b,o+k*2,none⟩=some (.int .i64 l[k].1)∧w.cell? ⟨b,o+k*2+1,none⟩=some (.int .i64 l[k].2):=by
 obtain⟨b,o,rfl,hb,hc⟩:=SlOf.cells h (fun _=>rfl) (by decide) hk;exact⟨b,o,rfl,hb,hc 0 (by decide),by rw[Nat.add_assoc];exact hc 1 (by decide)⟩
theorem idx_contains (s:List UInt8):decide (0≤Lib.indexByte s 47)=s.contains 47:=by
 exact(Lib.contains_iff_indexByte s 47).symm
set_option maxRecDepth 100000 in theorem fractions_any (l : List (Int × Int)) (hl : ∀ x ∈ l, In64 x.1 ∧ In64 x.2) (n : Nat) (hn : n = l.length) (hr : l.length ≤ 1000000) (a : Option Addr) (cap : Nat) (w : World) (hs : SlRt w a cap l) (hp : PowTab w) :
  Calls prog 116 #[.slice a n cap] w fun e w'=>Below w.heap.size w w'∧∃ v,e=.returned (.tuple #[v,.bool (l.all fun x=>fracB x.1 x.2)]) ∧
   ((l.all fun x=>fracB x.1 x.2)=true→Owns w' w.heap.size 9 1 enTx v (l.map fun x=>fracT x.1 x.2)):=by
 subst hn;obtain⟨T,hT⟩:∃ T,T=l.all fun x=>fracB x.1 x.2:=⟨_,rfl⟩
 rw[← hT];have HT:=Qh hT;clear hT;have HP:=Qh hp;clear hp;go_enter func116,ntmps116
 go_wp2_with fail;go_loopw [4,11] (fun v i wr=>∃ k:Nat,k≤l.length∧i=.int .i64 k∧Owns wr w.heap.size 9 1 enTx v ((l.map fun x=>fracT x.1 x.2).take k)∧T=((l.drop k).all fun x=>fracB x.1 x.2)∧Below w.heap.size w wr) (fun _ i _=>l.length - (intOf i).toNat)
 case atStart=>exact⟨0,Nat.zero_le _,rfl,Owns.nil _ _ _ _ _,by rw[HT.out];rfl,Below.refl _ _⟩
 case round=>
  obtain⟨k,hk,rfl,hown,hTk,hbel⟩:=hrel;by_cases hlt:k < l.length
  ·obtain⟨b,o,rfl,hb,hc0,hc1⟩:=SlRt.at (hs.keep hbel lrf) hlt;rw[List.drop_eq_getElem_cons hlt,List.all_cons]at hTk;have HS:=Qh (show(l.map (fun x=>fracT x.1 x.2)).take (k+1)=(l.map (fun x=>fracT x.1 x.2)).take k++[fracT l[k].1 l[k].2]by rw[List.take_succ_eq_append_getElem (by simpa using hlt)];simp);obtain⟨i1,i2⟩:=hl l[k] (List.getElem_mem hlt);generalize l[k].1=x0 at *;generalize l[k].2=x1 at *;have HTK:=Qh hTk;clear hTk;have cp:=fun W hW=>print_any x0 x1 i1 i2 W hW
   have hbox:=box1 wr #[.int .i64 x0,.int .i64 x1] 87;obtain⟨-,-,hbw⟩:=hbox;have hbel1:=bstep hbel hbw lrf;have hown1:=hown.keep hbw lrf;have hp1:=PowTab.keep HP.out hbel1;have HF:=Qh (fun h=>frac7_len x0 x1 i1 i2 h);have HFB:=Qh (show fracB x0 x1=(rightB x0 x1 && !(fracT x0 x1).contains 47)from rfl);have hfT:printL x0 x1.natAbs=fracT x0 x1:=rfl;rw[hfT]at cp;generalize fracT x0 x1=t at *;generalize fracB x0 x1=fb at *;clear hfT hown hbel hbw;cases hrb:rightB x0 x1
   ·rw[hrb]at cp;have HV:=Qh (show T=false by rw[HTK.out,HFB.out,hrb];rfl);clear HTK HFB hrb HF;go_wp2_with fail;with_reducible refine(cp _ hp1).mono ?_
    rintro e w1 ⟨rfl,hb1⟩;have hbel2:=bstep hbel1 hb1 lrf;clear hb1 cp hp1 hown1 hbel1 hc0 hc1;unfold errV;go_wp2_with fail;go_ret2
    exact⟨hbel2,_,congrArg (fun z=>Ending.returned (.tuple #[.slice none 0 0,.bool z])) HV.out.symm,fun h=>by rw[HV.out]at h;cases h⟩
   ·rw[hrb]at cp;have cc:=Tryz.strings_Contains_one ⟨t.toArray⟩ 47;rw[show(⟨t.toArray⟩:ByteArray).data.toList=t from rfl,idx_contains]at cc;have HFB2:=Qh (show fb = !t.contains 47 by rw[HFB.out,hrb];rfl);clear HFB hrb;generalize t.contains 47=tc at *;go_wp2_with fail;with_reducible refine(cp _ hp1).mono ?_
    rintro e w1 ⟨rfl,hb1⟩;have hbel2:=bstep hbel1 hb1 lrf;have hown2:=hown1.keep hb1 lrf;clear hb1 cp hp1 hown1 hbel1 hc0 hc1;go_wp2_with fail;with_reducible refine(cc _).mono ?_
    rintro e w2 ⟨rfl,rfl⟩;clear cc;cases tc
    ·have HV:=Qh (show T=((l.drop (k+1)).all fun x=>fracB x.1 x.2)by rw[HTK.out,HFB2.out];rfl);clear HTK HFB2 HF;go_wp2_with (at_builtin;go_loud (refine wpList_append_elem txs_ty ((l.map fun x=>fracT x.1 x.2).take k) t hown2 hbel2 lrf (by rw[List.length_take,List.length_map];omega) ?_ (hone:=by simp[enTx,Value.oneCell'])))
     intro v' w3 hown3 hb3;clear hown2 hbel2;go_wp2_with fail;go_roundw;case rel=>exact⟨k+1,by omega,by go_num,by rw[HS.out];exact hown3,HV.out,hb3⟩
     case measure=>simp[intOf];omega
    ·have HV:=Qh (show T=false by rw[HTK.out,HFB2.out];rfl);clear HTK HFB2 HF;go_wp2_with fail;go_ret2
     exact⟨hbel2,_,congrArg (fun z=>Ending.returned (.tuple #[.slice none 0 0,.bool z])) HV.out.symm,fun h=>by rw[HV.out]at h;cases h⟩
  ·obtain rfl:k=l.length:=by omega
   rw[show(l.map fun x=>fracT x.1 x.2).take l.length=l.map fun x=>fracT x.1 x.2 from List.take_of_length_le (by simp)]at hown;have HV:=Qh (show T=true by rw[hTk,List.drop_length];rfl);clear hTk;obtain⟨a2,c2,rfl,-⟩:=hown.shape;go_wp2_with fail;go_ret2
   exact⟨hbel,_,congrArg (fun z=>Ending.returned (.tuple #[_,.bool z])) HV.out.symm,fun _=>hown⟩
end Go.Proofs.YtkblpaabknjckaaGreatDoor
