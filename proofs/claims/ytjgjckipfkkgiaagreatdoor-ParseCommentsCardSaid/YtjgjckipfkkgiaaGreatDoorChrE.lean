/-
  chars.Unquote: contract.
-/
import Derived.Test.YtjgjckipfkkgiaaGreatDoorBaseD
import Derived.Test.YtjgjckipfkkgiaaGreatDoorShelfV
import Derived.Shelf.Strings.Builder1
import Derived.Test.YtjgjckipfkkgiaaGreatDoorLexB
import Derived.Lib.ValidU
import Derived.Deep.DeepCutAuto
set_option maxHeartbeats 128000000
set_option linter.unusedVariables false
namespace Go.Proofs.YtjgjckipfkkgiaaGreatDoor
open Go.Proofs.Tryz
open Go.RowKit Go.Shelf
set_option maxRecDepth 100000 in theorem ccheck_used (b : Nat) (w : World) (h0 : w.cell? ⟨b, 0, none⟩ = some (.pointer (some ⟨b, 0, none⟩))) :
  Calls prog 204 #[.pointer (some ⟨b,0,none⟩)] w fun e w'=>e=.returned (.tuple #[])∧w' = w:=by
 obtain⟨j,hj,_⟩:=Option.map_eq_some_iff.1 (Tryz.Builder_Extra_169).sizeBuilder;go_enter func204,ntmps204
 go_wp2
 rw[Lib.run_neq_ptr_same w _ underlying285 hj];go_wp2
 go_end0
 exact⟨rfl,rfl⟩
set_option maxRecDepth 100000 in theorem ccheck_fresh (b : Nat) (w : World) (h0 : w.cell? ⟨b, 0, none⟩ = some (.pointer none)) (hsh : w.shape? b = some (287, 2)) (hfz : w.frozen? ⟨b, 0, none⟩ = false) :
  Calls prog 204 #[.pointer (some ⟨b,0,none⟩)] w fun e w'=>e=.returned (.tuple #[])∧w' = w.setCell ⟨b,0,none⟩ (.pointer (some ⟨b,0,none⟩)):=by
 obtain⟨j,hj,hjs⟩:=Option.map_eq_some_iff.1 (Tryz.Builder_Extra_169).sizeBuilder;go_enter func204,ntmps204
 go_wp2
 rw[Lib.run_to_unsafe w ⟨b,0,none⟩ underlying285 underlying133 hj (by rw[hjs];decide) hsh (Nat.zero_lt_succ 1)];simp only[Result.andThen];rw[Oper.upon_value];go_wp2
 rw[run_callFunc_extern func233 (by kernel_rfl) (by kernel_rfl) (by kernel_rfl) (e:=Extern.AbiNoEscape.same) (by kernel_rfl)];rw[Lib.run_noEscape];simp only[Result.andThen];rw[Oper.upon_value];go_wp2
 rw[Lib.run_from_unsafe w ⟨b,0,none⟩ underlying133 underlying285 hj hsh (Tryz.Builder_Extra_169).liesBuilder];simp only[Result.andThen];rw[Oper.upon_value];go_wp2
 go_end0
 exact⟨rfl,rfl⟩
abbrev BuilderIs (B b:Nat) (l:List UInt8) (w:World):Prop:=Lib.IsBuilder 287 5 B b (Lib.byteCells l) w
theorem BuilderIs.fresh (w:World):BuilderIs w.heap.size w.heap.size [] (w.alloc (.cells #[.pointer none,.slice none 0 0] 287)):=
 .inl ⟨lrf,.slice none 0 0,heap_alloc_new w _,World.ownsRow_nil _ _ _ _,by simp[Value.ownBlock]⟩
theorem byteCells_snoc (l:List UInt8) (c:UInt8):Lib.byteCells (l++[c])=Lib.byteCells l++[.int .u8 (c.toNat:Nat)]:=by
 simp[Lib.byteCells]
theorem byteCells_len (l:List UInt8):(Lib.byteCells l).length=l.length:=by simp[Lib.byteCells]
set_option maxRecDepth 100000 in theorem writeByte_any (B b : Nat) (l : List UInt8) (c : UInt8) (w : World) (h : BuilderIs B b l w) (hlen : l.length + 1 ≤ 140737488355328) (hBw : B ≤ w.heap.size) :
  Calls prog 180 #[.pointer (some ⟨b,0,none⟩),.int .u8 (c.toNat:Nat)] w fun e w'=>e=.returned .nilIface∧BuilderIs B b (l++[c]) w'∧Below B w w':=by
 have hcc:Calls prog 204 #[.pointer (some ⟨b,0,none⟩)] w fun e w'=>e=.returned (.tuple #[])∧Lib.BuilderAt 287 5 B b (.pointer (some ⟨b,0,none⟩)) (Lib.byteCells l) w'∧Below B w w':=by
  rcases h with h|h
  ·refine(ccheck_fresh b w h.cell0 h.shape h.frozen0).mono ?_;rintro e w' ⟨rfl,rfl⟩;exact⟨rfl,h.used _,(Below.refl B w).setCell (p:=⟨b,0,none⟩) h.1 _⟩
  ·refine(ccheck_used b w h.cell0).mono ?_;rintro e w' ⟨rfl,rfl⟩;exact⟨rfl,h,Below.refl _ _⟩
 obtain⟨i0,hi,hz0,hz1,hz2⟩:=info_parts (Tryz.Builder_Extra_169).infoByte;go_enter func180,ntmps180
 go_wp2_with fail;(with_reducible refine hcc.mono ?_);rintro e w1 ⟨rfl,h1,hb1⟩;obtain⟨hB,v,hbk,hown,hne⟩:=h1;have c0:w1.cell? ⟨b,0,none⟩=some (.pointer (some ⟨b,0,none⟩)):=(by rw[Lib.cell_of_heap hbk];rfl);have c1:w1.cell? ⟨b,1,none⟩=some v:=(by rw[Lib.cell_of_heap hbk];rfl);go_wp2_with (at_builtin;refine wpList_append_own _ rfl _ _ 227 rfl B 5 i0 (.int .u8 0) 1 1 underlying227 hi hz0 hz1 hz2 rfl (by decide) _ _ _ rfl (hown.alloc _) ⟨w1.heap.size,0,none⟩ 1 1 [.int .u8 (c.toNat:Nat)] rfl rfl ?c1 ?c2 ?c3 ?c4 ?c5 ?_)
 case c1=>
  intro j u hj
  match j,hj with
  | 0,hj=>simp at hj;subst hj;simp[Addr.add]
 case c2=>intro u hu;simp at hu;subst hu;rfl
 case c3=>unfold maxLen;rw[byteCells_len];omega
 case c4=>rw[byteCells_len];omega
 case c5=>have:=hb1.size;simp;omega
 intro v' w2 hown' hgrow _;have hlt:b < w1.heap.size:=by
  rcases Nat.lt_or_ge b w1.heap.size with h' | h'
  ·exact h'
  ·simp[Array.getElem?_eq_none h']at hbk
 have hb2:w2.heap[b]? = some (.cells #[.pointer (some ⟨b,0,none⟩),v] 287 (0,0)):=by
  rw[hgrow.block b (by simp;omega) (fun e=>hne e.symm),Lib.alloc_old w1 _ b hlt];exact hbk
 have d0:w2.cell? ⟨b,0,none⟩=some (.pointer (some ⟨b,0,none⟩)):=(by rw[Lib.cell_of_heap hb2];rfl);have d1:w2.cell? ⟨b,1,none⟩=some v:=(by rw[Lib.cell_of_heap hb2];rfl);have f1:w2.frozen? ⟨b,1,none⟩=false:=Lib.frozen_of_heap hb2 1;obtain⟨g,cap,rfl⟩:∃ g cap,v' = .slice (some ⟨g,0,none⟩) ((Lib.byteCells l).length+1) cap:=by
  rcases hown'.2 with ⟨_,h0⟩|⟨g,cap,cur,hv,_⟩
  ·omega
  ·exact⟨g,cap,hv⟩
 go_wp2
 go_ret;refine⟨rfl,.inr ?_,?_⟩
 ·rw[byteCells_snoc];exact Lib.BuilderAt.put (T:=287) (e:=5) hB hb2 (bs':=Lib.byteCells l++[.int .u8 (c.toNat:Nat)]) (by simpa using hown') (by decide)
 ·exact((hb1.alloc (by have:=hb1.size;omega) _).grown hgrow (by have:=hb1.size;simp;omega) (fun k hk=>(hown.lt k hk).1)).setCell (p:=⟨b,1,none⟩) hB _
theorem decodeL_dec (l:List UInt8):Lib.decodeL l=decL l:=by
 have:=dec_drop l 0;rw[List.drop_zero]at this;exact this
theorem validGo_units (f:Nat) (l:List UInt8) (p:Int×Int):Lib.validGoD f l = !((unitsF f l p).any fun u=>illU u.rune u.wide):=by
 induction f generalizing l p with
 | zero=>rfl
 | succ f ih=>
  unfold Lib.validGoD unitsF;by_cases h:l=[]
  ·rw[if_pos h,if_pos h];rfl
  ·rw[if_neg h,if_neg h,decodeL_dec,List.any_cons];by_cases hi:(decL l).1=65533∧(decL l).2=1
   ·rw[if_pos hi];unfold illU;rw[hi.1,hi.2];rfl
   ·rw[if_neg hi,ih _ (nextP p (decL l).1)];have:illU (decL l).1 (decL l).2=false:=by
     unfold illU;rw[Bool.eq_false_iff];intro h2;apply hi;rw[Bool.and_eq_true,beq_iff_eq,beq_iff_eq]at h2;exact h2
    rw[this,Bool.false_or]
theorem valid_units (l:List UInt8):Lib.validD l = !((unitsL l).any fun u=>illU u.rune u.wide):=validGo_units _ _ _
theorem idx_units (q:Nat→Bool) (s:List UInt8) (f pos:Nat) (p:Int×Int):decide (0≤Lib.idxFuncFrom q true ⟨s.toArray⟩ f pos)=(unitsF f (s.drop pos) p).any fun u=>q u.rune:=by
 induction f generalizing pos p with
 | zero=>rfl
 | succ f ih=>
  unfold Lib.idxFuncFrom unitsF;by_cases h:pos < s.length
  ·have hne:s.drop pos≠[]:=(by intro h2;have:=congrArg List.length h2;rw[List.length_drop]at this;simp at this;omega);rw[if_pos (show pos < (⟨s.toArray⟩:ByteArray).size from h),if_neg hne,dec_drop,List.any_cons];cases hq:q (decL (s.drop pos)).1
   ·rw[if_neg (by simp),Bool.false_or,ih _ (nextP p (decL (s.drop pos)).1),List.drop_drop]
   ·rw[if_pos rfl,Bool.true_or,decide_eq_true_eq];omega
  ·have hne:s.drop pos=[]:=List.drop_eq_nil_of_le (by omega);rw[if_neg (show ¬ pos < (⟨s.toArray⟩:ByteArray).size from h),if_pos hne];rfl
theorem contains_units (q:Nat→Bool) (s:List UInt8):decide (0≤Lib.idxFunc q true ⟨s.toArray⟩)=(unitsL s).any fun u=>q u.rune:=idx_units q s s.length 0 (1,1)
def mayN (l:List UInt8):Nat:=if 1024 < l.length then 5 else if ((unitsL l).any fun u=>illU u.rune u.wide) || ((unitsL l).any fun u=>ctlU u.rune) then 6 else 0
def errO (n:Nat):Value:=if n=0 then .nilIface else errV n
def TabsU (w:World):Prop:=Lib.Utf8Tabs 5 6 w
theorem TabsU.keep {w w':World} (h:TabsU w) (hb:Below w.heap.size w w'):TabsU w':=by
 refine⟨fun c hc=>cell_keep' (h.1 c hc) hb,fun i hi=>⟨cell_keep' (h.2 i hi).1 hb,cell_keep' (h.2 i hi).2 hb⟩⟩
theorem valid_any (s:List UInt8) (hs:s.length≤9223372036854775807) (w:World) (hT:TabsU w) :
  Calls prog 205 #[.string ⟨s.toArray⟩] w fun e w'=>e=.returned (.bool (!((unitsL s).any fun u=>illU u.rune u.wide)))∧Below w.heap.size w w':=by
 rw[← valid_units];exact Any.utf8_ValidString Tryz.lays196 ⟨s.toArray⟩ w hs hT
theorem containsCtl_any (s:List UInt8) (w:World) :
  Calls prog 206 #[.string ⟨s.toArray⟩,.func (.func 110) #[] #[]] w fun e w'=>e=.returned (.bool ((unitsL s).any fun u=>ctlU u.rune))∧Below w.heap.size w w':=by
 rw[← contains_units ctlU s];exact Tryz.strings_ContainsFunc 110 #[] (enters_of func110 (by kernel_rfl) rfl) ctlU ⟨s.toArray⟩ w
  (fun W x hb=>(control_any x W).mono fun e w' h=>⟨h.1,0,h.2⟩)
set_option maxRecDepth 100000 in theorem may_any (s : List UInt8) (hs : s.length ≤ 9223372036854775807) (w : World) (hT : TabsU w) :
  Calls prog 181 #[.string ⟨s.toArray⟩] w fun e w'=>e=.returned (errO (mayN s))∧Below w.heap.size w w':=by
 by_cases h:(1024:Int) < s.length
 ·have HM:=Qh (show mayN s=5 by unfold mayN;rw[if_pos (by omega)]);clear hT;go_enter func181,ntmps181
  go_wp2_with fail;go_ret;exact⟨by rw[HM.out]<;>rfl,Below.refl _ _⟩
 ·have c1:=valid_any s hs w hT;have c2:=containsCtl_any s;have hm:mayN s=if ((unitsL s).any fun u=>illU u.rune u.wide) || ((unitsL s).any fun u=>ctlU u.rune) then 6 else 0:=(by unfold mayN;rw[if_neg (by omega)]);have HM:=Qh hm;clear hT hm;generalize ((unitsL s).any fun u=>illU u.rune u.wide)=b1 at *;generalize ((unitsL s).any fun u=>ctlU u.rune)=b2 at *;cases b1<;>cases b2
  all_goals
   have HN:=Qh HM.out;clear HM;go_enter func181,ntmps181
   go_wp2_with fail;(with_reducible refine c1.mono ?_);rintro e w1 ⟨rfl,hb⟩;have HB1:=Qh hb;clear hb c1;go_wp2_with fail;try (with_reducible refine(c2 _).mono ?_;rintro e w2 ⟨rfl,hb⟩;replace HB1:=Qh (bstep HB1.out hb lrf);clear hb;go_wp2_with fail)
   go_ret;exact⟨by rw[HN.out]<;>rfl,HB1.out⟩
abbrev BuilderFis (B b:Nat) (l:List UInt8) (w:World):Prop:=Lib.IsBuilderF 287 5 B b (Lib.byteCells l) w
theorem BuilderFis.keep {B b:Nat} {l:List UInt8} {w w':World} (h:BuilderFis B b l w) (hb:Below w.heap.size w w'):BuilderFis B b l w':=by
 have keep:∀ p,Lib.BuilderAtF 287 5 B b p (Lib.byteCells l) w→Lib.BuilderAtF 287 5 B b p (Lib.byteCells l) w':=by
  rintro p ⟨hB,v,hv,ho,hne⟩;exact⟨hB,v,(hb.block _ (gE hv)).trans hv,Go.World.ownsRowF.kept (row:=none) ho ⟨hb.os,hb.tape,hb.output,hb.size,fun k hk _=>hb.block k hk⟩ (by cases hv:v.ownBlock<;>simp),hne⟩
 exact h.elim (fun x=>.inl (keep _ x)) (fun x=>.inr (keep _ x))
def unq:List UInt8→List UInt8→Option (List UInt8×List UInt8)
 | acc,[]=>some (acc,[])
 | acc,c::t=>if c=34 then some (acc,c::t) else if c=92 then (match t with
   | []=>none
   | d::u=>if d=34∨d=92 then unq (acc++[d]) u else none) else unq (acc++[c]) t
inductive UnqR where
 | bad (n:Nat)
 | good (l:List UInt8)
def unqFin (b:List UInt8):UnqR:=if mayN b=0 then .good b else .bad (mayN b)
def unqEnd:Option (List UInt8×List UInt8)→UnqR
 | none=>.bad 4
 | some (_,[])=>.bad 2
 | some (b,_::r)=>if r=[] then unqFin b else .bad 3
def unqL (s:List UInt8):UnqR:=match s with
 | []=>.bad 2
 | [_]=>.bad 2
 | c::t=>if c=34 then unqEnd (unq [] t) else .bad 4
def unqV:UnqR→Value
 | .bad n=>.tuple #[.string ⟨#[]⟩,errV n]
 | .good l=>.tuple #[.string ⟨l.toArray⟩,.nilIface]
theorem unq_nil (acc:List UInt8):unq acc []=some (acc,[]):=by unfold unq;rfl
theorem unq_quote (acc t:List UInt8):unq acc (34::t)=some (acc,34::t):=by unfold unq;rw[if_pos rfl]
theorem unq_plain {acc t:List UInt8} {c:UInt8} (h1:c≠34) (h2:c≠92):unq acc (c::t)=unq (acc++[c]) t:=by rw[unq.eq_def];simp only;rw[if_neg h1,if_neg h2]
theorem unq_esc_end (acc:List UInt8):unq acc [92]=none:=by unfold unq;rw[if_neg (by decide),if_pos rfl]
theorem unq_esc {acc t:List UInt8} {d:UInt8}:unq acc (92::d::t)=if d=34∨d=92 then unq (acc++[d]) t else none:=by rw[unq,if_neg (by decide),if_pos rfl]
set_option maxRecDepth 100000 in theorem unquote_any (s : List UInt8) (hs : s.length ≤ 1000000000) (w : World) (hT : TabsU w) :
  Calls prog 155 #[.string ⟨s.toArray⟩] w fun e w'=>e=.returned (unqV (unqL s))∧Below w.heap.size w w':=by
 obtain⟨V,hV⟩:∃ V,V=unqV (unqL s):=⟨_,rfl⟩
 rw[← hV];have HV:=Qh hV;clear hV;have HT:=Qh hT;clear hT;by_cases h2:(s.length:Int) < 2
 ·have HN:=Qh (show V=.tuple #[.string ⟨#[]⟩,errV 2]by
   rw[HV.out];rcases s with _|⟨a,_|⟨b,t⟩⟩
   ·rfl
   ·rfl
   ·simp at h2;omega)
  clear HV;go_enter func155,ntmps155
  go_wp2_with fail;go_ret2
  exact⟨by rw[HN.out]<;>rfl,Below.refl _ _⟩
 have h0:0 < s.length:=(by omega);have hget:(⟨s.toArray⟩:ByteArray)[0]'h0=s[0]:=rfl;by_cases hq:s[0]=34;case neg=>
  have HN:=Qh (show V=.tuple #[.string ⟨#[]⟩,errV 4]by
   rw[HV.out];rcases s with _|⟨a,_|⟨b,t⟩⟩
   ·simp at h0
   ·simp at h2
   ·show unqV (if a=34 then _ else _)=_;rw[if_neg (show ¬ a=34 from hq)];rfl)
  have g34:((s[0].toNat:Int) != 34)=true:=by
   rw[bne_iff_ne];intro h;exact hq (UInt8.toNat.inj (by have e:UInt8.toNat 34=34:=rfl;rw[e];omega))
  generalize s[0]=c at *;clear HV hq;go_enter func155,ntmps155
  go_wp2_with fail;go_ret2
  exact⟨by rw[HN.out]<;>rfl,Below.refl _ _⟩
 case pos=>
  have hst:V=unqV (unqEnd (unq [] (s.drop 1))):=by
   rw[HV.out];rcases s with _|⟨a,_|⟨b,t⟩⟩
   ·simp at h0
   ·simp at h2
   ·show unqV (if a=34 then _ else _)=_;rw[if_pos (show a=34 from hq)];rfl
  have HS:=Qh hst;have g34:((s[0].toNat:Int) != 34)=false:=(by rw[hq];rfl);generalize s[0]=c0 at *;clear HV hq hst;have hbf:=BuilderIs.fresh w;have hbb:Below w.heap.size w (w.alloc (.cells #[.pointer none,.slice none 0 0] 287)):=(Below.refl _ _).alloc lrf _;have HBF:=Qh hbf;have HBB:=Qh hbb;clear hbf hbb;go_enter func155,ntmps155
  go_wp2_with fail;generalize w.alloc (.cells #[.pointer none,.slice none 0 0] 287)=W at *;go_loopw [5] (fun x wr=>∃ (k:Nat) (acc:List UInt8),x=.int .i64 (k:Nat)∧1≤k∧k≤s.length∧acc.length≤k∧V=unqV (unqEnd (unq acc (s.drop k)))∧BuilderIs w.heap.size w.heap.size acc wr∧Below w.heap.size w wr) (fun x _=>s.length - (intOf x).toNat)
  case atStart=>exact⟨1,[],rfl,lrf,by omega,Nat.zero_le _,HS.out,HBF.out,HBB.out⟩
  case round=>
   clear HS HBF HBB hget g34;obtain⟨k,acc,rfl,hk1,hk,hacc,hVk,hbu,hbw⟩:=hrel;have HBU:=Qh hbu;have HBW:=Qh hbw;have hBs:=hbw.size;clear hbu hbw;by_cases hlt:(k:Int) < s.length
   ·have hlt':k < s.length:=(by omega);have hget:(⟨s.toArray⟩:ByteArray)[k]'hlt' = s[k]:=rfl;have hd:=List.drop_eq_getElem_cons hlt';rw[hd]at hVk;by_cases h34:s[k]=34
    · -- the closing quote
     have g:((s[k].toNat:Int) != 34)=false:=(by rw[h34];rfl);rw[h34,unq_quote]at hVk;have HVK:=Qh hVk;generalize s[k]=c at *;clear hd h34 hVk;have gk:((k:Int) == s.length)=false:=(by rw[beq_eq_false_iff_ne];omega);by_cases hlong:(k:Int)+1 < s.length
     ·have HN:=Qh (show V=.tuple #[.string ⟨#[]⟩,errV 3]by
       rw[HVK.out];show unqV (if s.drop (k+1)=[] then _ else _)=_;rw[if_neg (by intro h;have:=congrArg List.length h;rw[List.length_drop]at this;simp at this;omega)];rfl)
      clear HVK;go_wp2_with fail;go_ret2
      exact⟨by rw[HN.out]<;>rfl,HBW.out⟩
     ·have HN:=Qh (show V=unqV (unqFin acc)by
       rw[HVK.out];show unqV (if s.drop (k+1)=[] then _ else _)=_;rw[if_pos (List.drop_eq_nil_of_le (by omega))])
      have c1:=Tryz.Builder_String_any_f w.heap.size w.heap.size acc wr (Lib.IsBuilderF.of HBU.out) hBs;have cm:=fun w hT=>may_any acc (by omega) w hT
      clear HVK;go_wp2_with fail;(with_reducible refine c1.mono ?_);rintro e w1 ⟨rfl,hf1,hb1⟩;have HF1:=Qh hf1;have HB1:=Qh (HBW.out.trans hb1);clear hf1 hb1 c1;go_wp2_with fail;with_reducible refine(cm _ (HT.out.keep HB1.out)).mono ?_
      rintro e w2 ⟨rfl,hb2⟩;have HF2:=Qh (BuilderFis.keep HF1.out hb2);have HB2:=Qh (bstep HB1.out hb2 lrf);have hB2:=HB2.out.size;clear hb2 cm;by_cases hm:mayN acc=0
      ·have HM:=Qh (show V=.tuple #[.string ⟨acc.toArray⟩,.nilIface]by rw[HN.out];unfold unqFin;rw[if_pos hm];rfl);rw[show errO (mayN acc)=.nilIface by unfold errO;rw[if_pos hm]];have c2:=Tryz.Builder_String_any_f w.heap.size w.heap.size acc w2 HF2.out hB2;clear hm HN;go_wp2_with fail;(with_reducible refine c2.mono ?_);rintro e w3 ⟨rfl,hf3,hb3⟩;have HB3:=Qh (HB2.out.trans hb3);clear hf3 hb3 c2;go_wp2_with fail;go_ret2
       exact⟨by rw[HM.out]<;>rfl,HB3.out⟩
      ·have HM:=Qh (show V=.tuple #[.string ⟨#[]⟩,errV (mayN acc:Nat)]by rw[HN.out];unfold unqFin;rw[if_neg hm];rfl);rw[show errO (mayN acc)=errV (mayN acc:Nat)by unfold errO;rw[if_neg hm]];generalize mayN acc=m at *;unfold errV;clear hm HN;go_wp2_with fail;go_ret2
       exact⟨by rw[HM.out]<;>rfl,HB2.out⟩
    ·have g:((s[k].toNat:Int) != 34)=true:=by
      rw[bne_iff_ne];intro h;exact h34 (UInt8.toNat.inj (by have e:UInt8.toNat 34=34:=rfl;rw[e];omega))
     by_cases h92:s[k]=92
     ·have g2:((s[k].toNat:Int) == 92)=true:=(by rw[h92];rfl);rw[h92]at hVk;by_cases hlt2:(k:Int)+1=s.length
      ·have HN:=Qh (show V=.tuple #[.string ⟨#[]⟩,errV 4]by
        rw[hVk,List.drop_eq_nil_of_le (by omega),unq_esc_end];rfl)
       generalize s[k]=c at *;have ge:((k:Int)+1 == s.length)=true:=(by rw[beq_iff_eq];exact hlt2);clear hd h34 h92 hVk hlt2;go_wp2_with fail;go_ret2
       exact⟨by rw[HN.out]<;>rfl,HBW.out⟩
      ·have hlt3:k+1 < s.length:=(by omega);have hget2:(⟨s.toArray⟩:ByteArray)[k+1]'hlt3=s[k+1]:=rfl;have hd2:=List.drop_eq_getElem_cons hlt3;rw[hd2,unq_esc]at hVk;have ge:((k:Int)+1 == s.length)=false:=(by rw[beq_eq_false_iff_ne];exact hlt2);generalize s[k]=c at *;generalize s[k+1]=d at *;have e34:UInt8.toNat 34=34:=rfl;have e92:UInt8.toNat 92=92:=rfl;clear hd hd2 h34 h92;by_cases hdd:d=34∨d=92
       ·rw[if_pos hdd]at hVk;have HVK:=Qh hVk;have gd:((d.toNat:Int) != 34)=false∨(((d.toNat:Int) != 34)=true∧((d.toNat:Int) != 92)=false):=by
         rcases hdd with h|h
         ·left;rw[h];rfl
         ·right;rw[h];exact⟨rfl,rfl⟩
        have cw:=writeByte_any w.heap.size w.heap.size acc d wr HBU.out (by omega) hBs;clear hdd hVk;rcases gd with g3|⟨g3,g4⟩
        all_goals
         go_wp2_with fail;(with_reducible refine cw.mono ?_);rintro e w1 ⟨rfl,hbu2,hb2⟩;have HBU2:=Qh hbu2;have HBW2:=Qh (HBW.out.trans hb2);clear hbu2 hb2 cw;go_wp2_with fail;go_roundw;case rel=>exact⟨k+1+1,acc++[d],by first|rfl|go_num,by omega,by omega,by rw[List.length_append];simp;omega,HVK.out,HBU2.out,HBW2.out⟩
         case measure=>(simp[intOf]<;>omega)
       ·rw[if_neg hdd]at hVk;have HN:=Qh (show V=.tuple #[.string ⟨#[]⟩,errV 4]from hVk);have g3:((d.toNat:Int) != 34)=true:=(by rw[bne_iff_ne];intro h;exact hdd (.inl (UInt8.toNat.inj (by omega))));have g4:((d.toNat:Int) != 92)=true:=(by rw[bne_iff_ne];intro h;exact hdd (.inr (UInt8.toNat.inj (by omega))));clear hdd hVk;go_wp2_with fail;go_ret2
        exact⟨by rw[HN.out]<;>rfl,HBW.out⟩
     ·have g2:((s[k].toNat:Int) == 92)=false:=by
       rw[beq_eq_false_iff_ne];intro h;exact h92 (UInt8.toNat.inj (by have e:UInt8.toNat 92=92:=rfl;rw[e];omega))
      rw[unq_plain h34 h92]at hVk;have HVK:=Qh hVk;generalize s[k]=c at *;clear hd h34 h92 hVk;have cw:=writeByte_any w.heap.size w.heap.size acc c wr HBU.out (by omega) hBs;go_wp2_with fail;(with_reducible refine cw.mono ?_);rintro e w1 ⟨rfl,hbu2,hb2⟩;have HBU2:=Qh hbu2;have HBW2:=Qh (HBW.out.trans hb2);clear hbu2 hb2 cw;go_wp2_with fail;go_roundw;case rel=>exact⟨k+1,acc++[c],by first|rfl|go_num,by omega,by omega,by rw[List.length_append];simp;omega,HVK.out,HBU2.out,HBW2.out⟩
      case measure=>(simp[intOf]<;>omega)
   ·have HN:=Qh (show V=.tuple #[.string ⟨#[]⟩,errV 2]by
     rw[hVk,List.drop_eq_nil_of_le (by omega),unq_nil];rfl)
    have gk:((k:Int) == s.length)=true:=(by rw[beq_iff_eq];omega);clear hVk;go_wp2_with fail;go_ret2
    exact⟨by rw[HN.out]<;>rfl,HBW.out⟩
end Go.Proofs.YtjgjckipfkkgiaaGreatDoor
