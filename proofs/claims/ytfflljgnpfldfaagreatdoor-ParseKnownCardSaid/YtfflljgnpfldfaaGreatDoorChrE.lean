/-
  chars.Unquote: contract.
-/
import Derived.Test.YtfflljgnpfldfaaGreatDoorLexB
set_option linter.all false
set_option maxHeartbeats 128000000
set_option maxRecDepth 100000
namespace Go.Proofs.YtfflljgnpfldfaaGreatDoor
open Go.Proofs.Tryz
open Go.RowKit Go.Shelf
theorem akl (b:Nat) (w:World) (h0:w.cell? ⟨b,0,none⟩=some (.pointer (some ⟨b,0,none⟩))) :
  Calls prog 211 #[.pointer (some ⟨b,0,none⟩)] w fun e w'=>e=.returned (.tuple #[])∧w' = w:=by
 obtain⟨j,hj,_⟩:=IB.1 (Tryz.Ml).sizeBuilder;go_enter func211,ntmps211
 go_wp2
 rw[Lib.run_neq_ptr_same w _ underlying289 hj];go_wp2
 go_end0
 exact lz
theorem akm (b:Nat) (w:World) (h0:w.cell? ⟨b,0,none⟩=some (.pointer none)) (uM:w.shape? b=some (291,2)) (hfz:w.frozen? ⟨b,0,none⟩=false) :
  Calls prog 211 #[.pointer (some ⟨b,0,none⟩)] w fun e w'=>e=.returned (.tuple #[])∧w' = w.setCell ⟨b,0,none⟩ (.pointer (some ⟨b,0,none⟩)):=by
 obtain⟨j,hj,hjs⟩:=IB.1 (Tryz.Ml).sizeBuilder;go_enter func211,ntmps211
 go_wp2
 rw[Lib.run_to_unsafe w ⟨b,0,none⟩ underlying289 underlying166 hj (by rw[hjs];decide) uM (Nat.zero_lt_succ 1)];simp only[Result.andThen];rw[Oper.upon_value];go_wp2
 rw[run_callFunc_extern func239 aj aj aj (e:=Extern.AbiNoEscape.same) aj];rw[Lib.run_noEscape];simp only[Result.andThen];rw[Oper.upon_value];go_wp2
 rw[Lib.run_from_unsafe w ⟨b,0,none⟩ underlying166 underlying289 hj uM (Tryz.Ml).liesBuilder];simp only[Result.andThen];rw[Oper.upon_value];go_wp2
 go_end0
 exact lz
abbrev I7 (B b:Nat) (l:List UInt8) (w:World):Prop:=Lib.IsBuilder 291 5 B b (Lib.byteCells l) w
theorem I7.fresh (w:World):I7 w.heap.size w.heap.size [] (w.alloc (.cells #[.pointer none,.slice none 0 0] 291)):=
 .inl ⟨af,.slice none 0 0,dK w _,World.ownsRow_nil _ _ _ _,by simp[Value.ownBlock]⟩
theorem akn (l:List UInt8) (c:UInt8):Lib.byteCells (l++[c])=Lib.byteCells l++[.int .u8 (c.toNat:Nat)]:=by
 simp[Lib.byteCells]
theorem adD (l:List UInt8):(Lib.byteCells l).length=l.length:=by simp[Lib.byteCells]
theorem adE (B b:Nat) (l:List UInt8) (c:UInt8) (w:World) (h:I7 B b l w) (hlen:l.length+1≤140737488355328) (hBw:B≤w.heap.size) :
  Calls prog 183 #[.pointer (some ⟨b,0,none⟩),.int .u8 (c.toNat:Nat)] w fun e w'=>e=.returned .nilIface∧I7 B b (l++[c]) w'∧Below B w w':=by
 have hcc:Calls prog 211 #[.pointer (some ⟨b,0,none⟩)] w fun e w'=>e=.returned (.tuple #[])∧Lib.BuilderAt 291 5 B b (.pointer (some ⟨b,0,none⟩)) (Lib.byteCells l) w'∧Below B w w':=by
  rcases h with h|h
  ·refine(akm b w h.cell0 h.shape h.frozen0).mono ?_;rintro e w' ⟨rfl,rfl⟩;exact⟨rfl,h.used _,(aC B w).setCell (p:=⟨b,0,none⟩) h.1 _⟩
  ·refine(akl b w h.cell0).mono ?_;rintro e w' ⟨rfl,rfl⟩;exact⟨rfl,h,aC _ _⟩
 obtain⟨i0,hi,hz0,hz1,hz2⟩:=info_parts (Tryz.Ml).infoByte;go_enter func183,ntmps183
 go_wp2_with fail;refine dF hcc ?_;intro w1 h1 hb1;obtain⟨hB,v,bO,hown,hne⟩:=h1;have c0:w1.cell? ⟨b,0,none⟩=some (.pointer (some ⟨b,0,none⟩)):=(by rw[Lib.cell_of_heap bO];rfl);have c1:w1.cell? ⟨b,1,none⟩=some v:=(by rw[Lib.cell_of_heap bO];rfl);go_wp2_with (at_builtin;refine wpList_append_own _ rfl _ _ 199 rfl B 5 i0 (.int .u8 0) 1 1 underlying199 hi hz0 hz1 hz2 rfl ah _ _ _ rfl (hown.alloc _) ⟨w1.heap.size,0,none⟩ 1 1 [.int .u8 (c.toNat:Nat)] rfl rfl ?c1 ?c2 ?c3 ?c4 ?c5 ?_)
 case c1=>
  intro j u hj
  match j,hj with
  | 0,hj=>simp at hj;subst hj;simp[Addr.add]
 case c2=>intro u hu;simp at hu;subst hu;rfl
 case c3=>unfold maxLen;rw[adD];omega
 case c4=>rw[adD];omega
 case c5=>have:=hb1.size;simp;omega
 intro v' w2 hown' hgrow _;have hlt:b < w1.heap.size:=by
  rcases lI b w1.heap.size with h' | h'
  ·exact h'
  ·simp[Array.getElem?_eq_none h']at bO
 have hb2:w2.heap[b]? = some (.cells #[.pointer (some ⟨b,0,none⟩),v] 291 (0,0)):=by
  rw[hgrow.block b cO (fun e=>hne e.symm),Lib.alloc_old w1 _ b hlt];exact bO
 have d0:w2.cell? ⟨b,0,none⟩=some (.pointer (some ⟨b,0,none⟩)):=(by rw[Lib.cell_of_heap hb2];rfl);have d1:w2.cell? ⟨b,1,none⟩=some v:=(by rw[Lib.cell_of_heap hb2];rfl);have f1:w2.frozen? ⟨b,1,none⟩=false:=Lib.frozen_of_heap hb2 1;obtain⟨g,cap,rfl⟩:∃ g cap,v' = .slice (some ⟨g,0,none⟩) ((Lib.byteCells l).length+1) cap:=by
  rcases hown'.2 with ⟨_,h0⟩|⟨g,cap,cur,hv,_⟩
  ·omega
  ·exact⟨g,cap,hv⟩
 go_wp2
 go_ret;refine⟨rfl,.inr ?_,?_⟩
 ·rw[akn];exact Lib.BuilderAt.put (T:=291) (e:=5) hB hb2 (bs':=Lib.byteCells l++[.int .u8 (c.toNat:Nat)]) (by simpa using hown') ah
 ·exact((hb1.alloc (by have:=hb1.size;omega) _).grown hgrow (by have:=hb1.size;simp;omega) (fun k hk=>(hown.lt k hk).1)).setCell (p:=⟨b,1,none⟩) hB _
theorem ako (l:List UInt8):Lib.decodeL l=ay l:=by
 have:=Ba l 0;rw[List.drop_zero]at this;exact this
theorem akp (f:Nat) (l:List UInt8) (p:Int×Int):Lib.validGoD f l = !((dc f l p).any fun u=>gF u.rune u.wide):=by
 induction f generalizing l p with
 | zero=>rfl
 | succ f ih=>
  unfold Lib.validGoD dc;by_cases h:l=[]
  ·rw[if_pos h,if_pos h];rfl
  ·rw[if_neg h,if_neg h,ako,List.any_cons];by_cases hi:(ay l).1=65533∧(ay l).2=1
   ·rw[if_pos hi];unfold gF;rw[hi.1,hi.2];rfl
   ·rw[if_neg hi,ih _ (bW p (ay l).1)];have:gF (ay l).1 (ay l).2=false:=by
     unfold gF;rw[rS];intro h2;apply hi;rw[uF,dZ,dZ]at h2;exact h2
    rw[this,Bool.false_or]
theorem akq (l:List UInt8):Lib.validD l = !((aK l).any fun u=>gF u.rune u.wide):=akp _ _ _
theorem akr (q:Nat→Bool) (s:List UInt8) (f pos:Nat) (p:Int×Int):decide (0≤Lib.idxFuncFrom q true ⟨s.toArray⟩ f pos)=(dc f (s.drop pos) p).any fun u=>q u.rune:=by
 induction f generalizing pos p with
 | zero=>rfl
 | succ f ih=>
  unfold Lib.idxFuncFrom dc;by_cases h:pos < s.length
  ·have hne:s.drop pos≠[]:=(by intro h2;have:=jA List.length h2;rw[e7]at this;simp at this;omega);rw[if_pos (show pos < (⟨s.toArray⟩:ByteArray).size from h),if_neg hne,Ba,List.any_cons];cases hq:q (ay (s.drop pos)).1
   ·rw[if_neg aB,Bool.false_or,ih _ (bW p (ay (s.drop pos)).1),lG]
   ·rw[if_pos rfl,Bool.true_or,rR];omega
  ·have hne:s.drop pos=[]:=rP ae;rw[if_neg (show ¬ pos < (⟨s.toArray⟩:ByteArray).size from h),if_pos hne];rfl
theorem aks (q:Nat→Bool) (s:List UInt8):decide (0≤Lib.idxFunc q true ⟨s.toArray⟩)=(aK s).any fun u=>q u.rune:=akr q s s.length 0 (1,1)
def lK (l:List UInt8):Nat:=if 1024 < l.length then 5 else if ((aK l).any fun u=>gF u.rune u.wide) || ((aK l).any fun u=>mj u.rune) then 6 else 0
def Mm (n:Nat):Value:=if n=0 then .nilIface else dE n
def xP (w:World):Prop:=Lib.Utf8Tabs 5 6 w
theorem xP.keep {w w':World} (h:xP w) (hb:Below w.heap.size w w'):xP w':=by
 refine⟨fun c hc=>dx (h.1 c hc) hb,fun i hi=>⟨dx (h.2 i hi).1 hb,dx (h.2 i hi).2 hb⟩⟩
theorem akt (s:List UInt8) (hs:s.length≤9223372036854775807) (w:World) (hT:xP w) :
  Calls prog 212 #[.string ⟨s.toArray⟩] w fun e w'=>e=.returned (.bool (!((aK s).any fun u=>gF u.rune u.wide)))∧Below w.heap.size w w':=by
 rw[← akq];exact Any.utf8_ValidString Tryz.aku ⟨s.toArray⟩ w hs hT
theorem akv (s:List UInt8) (w:World) :
  Calls prog 213 #[.string ⟨s.toArray⟩,.func (.func 131) #[] #[]] w fun e w'=>e=.returned (.bool ((aK s).any fun u=>mj u.rune))∧Below w.heap.size w w':=by
 rw[← aks mj s];exact Tryz.strings_ContainsFunc 131 #[] (enters_of func131 aj rfl) mj ⟨s.toArray⟩ w
  (fun W x hb=>(adr x W).mono fun e w' h=>⟨h.1,0,h.2⟩)
theorem akw (s:List UInt8) (hs:s.length≤9223372036854775807) (w:World) (hT:xP w) :
  Calls prog 184 #[.string ⟨s.toArray⟩] w fun e w'=>e=.returned (Mm (lK s))∧Below w.heap.size w w':=by
 by_cases h:(1024:Int) < s.length
 ·have HM:=Qh (show lK s=5 by unfold lK;rw[if_pos ae]);clear hT;go_enter func184,ntmps184
  go_wp2_with fail;go_ret;exact⟨by rw[HM.o]<;>rfl,aC _ _⟩
 ·have c1:=akt s hs w hT;have c2:=akv s;have hm:lK s=if ((aK s).any fun u=>gF u.rune u.wide) || ((aK s).any fun u=>mj u.rune) then 6 else 0:=(by unfold lK;rw[if_neg ae]);have HM:=Qh hm;clear hT hm;generalize ((aK s).any fun u=>gF u.rune u.wide)=b1 at *;generalize ((aK s).any fun u=>mj u.rune)=b2 at *;cases b1<;>cases b2
  all_goals
   have HN:=Qh HM.o;clear HM;go_enter func184,ntmps184
   go_wp2_with fail;refine qT c1 ?_;clear c1;intro w1 bX;go_wp2_with fail;try (with_reducible refine(c2 _).mono ?_;rintro e w2 ⟨rfl,hb⟩;replace bX:=Qh (aH bX.o hb af);clear hb;go_wp2_with fail)
   go_ret;exact⟨by rw[HN.o]<;>rfl,bX.o⟩
abbrev QM (B b:Nat) (l:List UInt8) (w:World):Prop:=Lib.IsBuilderF 291 5 B b (Lib.byteCells l) w
theorem QM.keep {B b:Nat} {l:List UInt8} {w w':World} (h:QM B b l w) (hb:Below w.heap.size w w'):QM B b l w':=by
 have keep:∀ p,Lib.BuilderAtF 291 5 B b p (Lib.byteCells l) w→Lib.BuilderAtF 291 5 B b p (Lib.byteCells l) w':=by
  rintro p ⟨hB,v,hv,ho,hne⟩;exact⟨hB,v,(hb.block _ (gE hv)).trans hv,Go.World.ownsRowF.kept (row:=none) ho ⟨hb.os,hb.tape,hb.output,hb.size,fun k hk _=>hb.block k hk⟩ (by cases hv:v.ownBlock<;>simp),hne⟩
 exact h.elim (fun x=>.inl (keep _ x)) (fun x=>.inr (keep _ x))
def oD:List UInt8→List UInt8→Option (List UInt8×List UInt8)
 | acc,[]=>some (acc,[])
 | acc,c::t=>if c=34 then some (acc,c::t) else if c=92 then (match t with
   | []=>none
   | d::u=>if d=34∨d=92 then oD (acc++[d]) u else none) else oD (acc++[c]) t
inductive Mn where
 | bad (n:Nat)
 | good (l:List UInt8)
def xQ (b:List UInt8):Mn:=if lK b=0 then .good b else .bad (lK b)
def DL:Option (List UInt8×List UInt8)→Mn
 | none=>.bad 4
 | some (_,[])=>.bad 2
 | some (b,_::r)=>if r=[] then xQ b else .bad 3
def uN (s:List UInt8):Mn:=match s with
 | []=>.bad 2
 | [_]=>.bad 2
 | c::t=>if c=34 then DL (oD [] t) else .bad 4
def xR:Mn→Value
 | .bad n=>.tuple #[.string ⟨#[]⟩,dE n]
 | .good l=>.tuple #[.string ⟨l.toArray⟩,.nilIface]
theorem adF (acc:List UInt8):oD acc []=some (acc,[]):=by unfold oD;rfl
theorem adG (acc t:List UInt8):oD acc (34::t)=some (acc,34::t):=by unfold oD;rw[if_pos rfl]
theorem adH {acc t:List UInt8} {c:UInt8} (h1:c≠34) (h2:c≠92):oD acc (c::t)=oD (acc++[c]) t:=by rw[oD.eq_def];simp only;rw[if_neg h1,if_neg h2]
theorem adI (acc:List UInt8):oD acc [92]=none:=by unfold oD;rw[if_neg ah,if_pos rfl]
theorem adJ {acc t:List UInt8} {d:UInt8}:oD acc (92::d::t)=if d=34∨d=92 then oD (acc++[d]) t else none:=by rw[oD,if_neg ah,if_pos rfl]
theorem akx (s:List UInt8) (hs:s.length≤1000000000) (w:World) (hT:xP w) :
  Calls prog 169 #[.string ⟨s.toArray⟩] w fun e w'=>e=.returned (xR (uN s))∧Below w.heap.size w w':=by
 obtain⟨V,hV⟩:∃ V,V=xR (uN s):=⟨_,rfl⟩
 rw[← hV];have HV:=Qh hV;clear hV;have HT:=Qh hT;clear hT;by_cases h2:(s.length:Int) < 2
 ·have HN:=Qh (show V=.tuple #[.string ⟨#[]⟩,dE 2]by
   rw[HV.o];rcases s with _|⟨a,_|⟨b,t⟩⟩
   ·rfl
   ·rfl
   ·simp at h2;omega)
  clear HV;go_enter func169,ntmps169
  exact O0
 have h0:0 < s.length:=ae;have fZ:(⟨s.toArray⟩:ByteArray)[0]'h0=s[0]:=rfl;by_cases hq:s[0]=34;case neg=>
  have HN:=Qh (show V=.tuple #[.string ⟨#[]⟩,dE 4]by
   rw[HV.o];rcases s with _|⟨a,_|⟨b,t⟩⟩
   ·simp at h0
   ·simp at h2
   ·show xR (if a=34 then _ else _)=_;rw[if_neg (show ¬ a=34 from hq)];rfl)
  have zU:((s[0].toNat:Int) != 34)=true:=by
   rw[bne_iff_ne];intro h;exact hq (UInt8.toNat.inj (by have e:UInt8.toNat 34=34:=rfl;rw[e];omega))
  generalize s[0]=c at *;clear HV hq;go_enter func169,ntmps169
  exact O0
 case pos=>
  have hst:V=xR (DL (oD [] (s.drop 1))):=by
   rw[HV.o];rcases s with _|⟨a,_|⟨b,t⟩⟩
   ·simp at h0
   ·simp at h2
   ·show xR (if a=34 then _ else _)=_;rw[if_pos (show a=34 from hq)];rfl
  have HS:=Qh hst;have zU:((s[0].toNat:Int) != 34)=false:=(by rw[hq];rfl);generalize s[0]=c0 at *;clear HV hq hst;have sr:=I7.fresh w;have gh:Below w.heap.size w (w.alloc (.cells #[.pointer none,.slice none 0 0] 291)):=(aC _ _).alloc af _;have HBF:=Qh sr;have eE:=Qh gh;clear sr gh;go_enter func169,ntmps169
  go_wp2_with fail;generalize w.alloc (.cells #[.pointer none,.slice none 0 0] 291)=W at *;go_loopw [5] (fun x wr=>∃ (k:Nat) (acc:List UInt8),x=.int .i64 (k:Nat)∧1≤k∧k≤s.length∧acc.length≤k∧V=xR (DL (oD acc (s.drop k)))∧I7 w.heap.size w.heap.size acc wr∧Below w.heap.size w wr) (fun x _=>s.length - (intOf x).toNat)
  case atStart=>exact⟨1,[],rfl,af,ae,bV _,HS.o,HBF.o,eE.o⟩
  case round=>
   clear HS HBF eE fZ zU;obtain⟨k,acc,rfl,nM,hk,adK,cY,Mo,bh⟩:=hrel;have VO:=Qh Mo;have bE:=Qh bh;have VP:=bh.size;clear Mo bh;by_cases hlt:(k:Int) < s.length
   ·refine OI ?_;intro a8 fZ hd;rw[hd]at cY;by_cases gy:s[k]=34
    ·
     have g:((s[k].toNat:Int) != 34)=false:=(by rw[gy];rfl);rw[gy,adG]at cY;have qB:=Qh cY;generalize s[k]=c at *;clear hd gy cY;have gk:((k:Int) == s.length)=false:=ft;by_cases I8:(k:Int)+1 < s.length
     ·have HN:=Qh (show V=.tuple #[.string ⟨#[]⟩,dE 3]by
       rw[qB.o];show xR (if s.drop (k+1)=[] then _ else _)=_;rw[if_neg Pv];rfl)
      clear qB;exact O5
     ·have HN:=Qh (show V=xR (xQ acc)by
       rw[qB.o];show xR (if s.drop (k+1)=[] then _ else _)=_;rw[if_pos (rP ae)])
      have c1:=Tryz.Builder_String_any_f w.heap.size w.heap.size acc wr (Lib.IsBuilderF.of VO.o) VP;have cm:=fun w hT=>akw acc ae w hT
      clear qB;go_wp2_with fail;refine dF c1 ?_;intro w1 jk hb1;have gP:=Qh jk;have bX:=Qh (bE.o.trans hb1);clear jk hb1 c1;go_wp2_with fail;refine aQ (cm _ (HT.o.keep bX.o)) ?_;intro w2 hb2
      have vD:=Qh (QM.keep gP.o hb2);have aM:=Qh (aH bX.o hb2 af);have hB2:=aM.o.size;clear hb2 cm;by_cases hm:lK acc=0
      ·have HM:=Qh (show V=.tuple #[.string ⟨acc.toArray⟩,.nilIface]by rw[HN.o];unfold xQ;rw[if_pos hm];rfl);rw[show Mm (lK acc)=.nilIface by unfold Mm;rw[if_pos hm]];have c2:=Tryz.Builder_String_any_f w.heap.size w.heap.size acc w2 vD.o hB2;clear hm HN;go_wp2_with fail;refine dF c2 ?_;intro w3 hf3 hb3;have bT:=Qh (aM.o.trans hb3);clear hf3 hb3 c2;go_wp2_with fail;go_ret2
       exact⟨by rw[HM.o]<;>rfl,bT.o⟩
      ·have HM:=Qh (show V=.tuple #[.string ⟨#[]⟩,dE (lK acc:Nat)]by rw[HN.o];unfold xQ;rw[if_neg hm];rfl);rw[show Mm (lK acc)=dE (lK acc:Nat)by unfold Mm;rw[if_neg hm]];generalize lK acc=m at *;unfold dE;clear hm HN;go_wp2_with fail;go_ret2
       exact⟨by rw[HM.o]<;>rfl,aM.o⟩
    ·have g:((s[k].toNat:Int) != 34)=true:=by
      rw[bne_iff_ne];intro h;exact gy (UInt8.toNat.inj (by have e:UInt8.toNat 34=34:=rfl;rw[e];omega))
     by_cases lL:s[k]=92
     ·have g2:((s[k].toNat:Int) == 92)=true:=(by rw[lL];rfl);rw[lL]at cY;by_cases hlt2:(k:Int)+1=s.length
      ·have HN:=Qh (show V=.tuple #[.string ⟨#[]⟩,dE 4]by
        rw[cY,rP ae,adI];rfl)
       generalize s[k]=c at *;have ge:((k:Int)+1 == s.length)=true:=(by rw[dZ];exact hlt2);clear hd gy lL cY hlt2;exact O5
      ·have hlt3:k+1 < s.length:=ae;have DM:(⟨s.toArray⟩:ByteArray)[k+1]'hlt3=s[k+1]:=rfl;have p6:=jq hlt3;rw[p6,adJ]at cY;have ge:((k:Int)+1 == s.length)=false:=(by rw[gT];exact hlt2);generalize s[k]=c at *;generalize s[k+1]=d at *;have e34:UInt8.toNat 34=34:=rfl;have e92:UInt8.toNat 92=92:=rfl;clear hd p6 gy lL;by_cases hdd:d=34∨d=92
       ·rw[if_pos hdd]at cY;have qB:=Qh cY;have gd:((d.toNat:Int) != 34)=false∨(((d.toNat:Int) != 34)=true∧((d.toNat:Int) != 92)=false):=by
         rcases hdd with h|h
         ·left;rw[h];rfl
         ·right;rw[h];exact lz
        have cw:=adE w.heap.size w.heap.size acc d wr VO.o ae VP;clear hdd cY;rcases gd with g3|⟨g3,g4⟩
        all_goals
         go_wp2_with fail;refine dF cw ?_;intro w1 Mq hb2;have VQ:=Qh Mq;have vA:=Qh (bE.o.trans hb2);clear Mq hb2 cw;go_wp2_with fail;go_roundw;case rel=>exact⟨k+1+1,acc++[d],dV,ae,ae,xh,qB.o,VQ.o,vA.o⟩
         case measure=>exact nC
       ·rw[if_neg hdd]at cY;have HN:=Qh (show V=.tuple #[.string ⟨#[]⟩,dE 4]from cY);have g3:((d.toNat:Int) != 34)=true:=(by rw[bne_iff_ne];intro h;exact hdd (.inl (UInt8.toNat.inj ae)));have g4:((d.toNat:Int) != 92)=true:=(by rw[bne_iff_ne];intro h;exact hdd (.inr (UInt8.toNat.inj ae)));clear hdd cY;exact O5
     ·have g2:((s[k].toNat:Int) == 92)=false:=by
       refine C9 ?_;intro h;exact lL (UInt8.toNat.inj (by have e:UInt8.toNat 92=92:=rfl;rw[e];omega))
      rw[adH gy lL]at cY;have qB:=Qh cY;generalize s[k]=c at *;clear hd gy lL cY;have cw:=adE w.heap.size w.heap.size acc c wr VO.o ae VP;go_wp2_with fail;refine dF cw ?_;intro w1 Mq hb2;have VQ:=Qh Mq;have vA:=Qh (bE.o.trans hb2);clear Mq hb2 cw;go_wp2_with fail;go_roundw;case rel=>exact⟨k+1,acc++[c],dV,ae,ae,xh,qB.o,VQ.o,vA.o⟩
      case measure=>exact nC
   ·have HN:=Qh (show V=.tuple #[.string ⟨#[]⟩,dE 2]by
     rw[cY,rP ae,adF];rfl)
    have gk:((k:Int) == s.length)=true:=Dc;clear cY;exact O5
end Go.Proofs.YtfflljgnpfldfaaGreatDoor
