/-
  The parser's message: contract. (Printed by gen_prso.py.)
-/
import Derived.Test.YtkblpaabknjckaaGreatDoorBaseD
import Derived.Test.YtkblpaabknjckaaGreatDoorCopC
import Derived.Test.YtkblpaabknjckaaGreatDoorPrsC
import Derived.Test.YtkblpaabknjckaaGreatDoorPrsK
set_option maxHeartbeats 128000000
set_option linter.unusedVariables false
namespace Go.Proofs.YtkblpaabknjckaaGreatDoor
open Go.RowKit
inductive Chn {α:Type}:Nat→List (α×Nat×Nat)→Nat→Prop
 | nil {a b:Nat}:a≤b→Chn a [] b
 | cons {a b lo hi:Nat} {x:α} {l:List (α×Nat×Nat)}:a≤lo→lo≤hi→Chn hi l b→Chn a ((x,lo,hi)::l) b
theorem Chn.le {α:Type} {a b:Nat} {l:List (α×Nat×Nat)} (h:Chn a l b):a≤b:=by
 induction h with
 | nil h=>exact h
 | cons h1 h2 _ ih=>omega
theorem Chn.snoc {α:Type} {a b:Nat} {l:List (α×Nat×Nat)} (h:Chn a l b) {lo hi:Nat} (x:α) (h1:b≤lo) (h2:lo≤hi):Chn a (l++[(x,lo,hi)]) hi:=by
 induction h with
 | nil h=>exact .cons (Nat.le_trans h h1) h2 (.nil lrf)
 | cons h3 h4 _ ih=>exact .cons h3 h4 (ih h1)
theorem Chn.mono {α:Type} {a b:Nat} {l:List (α×Nat×Nat)} (h:Chn a l b) {b':Nat} (hb:b≤b'):Chn a l b':=by
 induction h with
 | nil h=>exact .nil (Nat.le_trans h hb)
 | cons h3 h4 _ ih=>exact .cons h3 h4 (ih hb)
theorem Chn.low {α:Type} {a b:Nat} {l:List (α×Nat×Nat)} (h:Chn a l b) {a':Nat} (ha:a'≤a):Chn a' l b:=by
 cases h with
 | nil h=>exact .nil (Nat.le_trans ha h)
 | cons h3 h4 h5=>exact .cons (Nat.le_trans ha h3) h4 h5
def fdSigT (w:World) (x:SigX×Nat×Nat) (cs:List Value):Prop:=∃ v,cs=(x.1.d.cells v).toList∧Owns w x.2.1 9 1 enTx v x.1.rs∧∀ k,v.ownBlock=some k→k < x.2.2
def fdMsgT (w:World) (m:MsgD×Nat×Nat) (cs:List Value):Prop:=∃ (v:Value) (T:List (SigX×Nat×Nat)),cs=(m.1.cells v).toList∧OwnRd w m.2.1 89 fdSigT 19 v T∧T.map Prod.fst=m.1.sigs∧Chn m.2.1 T m.2.2∧∀ k,v.ownBlock=some k→k < m.2.2
def fdTabT (w:World) (t:TabD×Nat×Nat) (cs:List Value):Prop:=∃ v,cs=(t.1.cells v).toList∧Owns w t.2.1 93 2 enRw v t.1.rows∧∀ k,v.ownBlock=some k→k < t.2.2
def fdStaT (w:World) (s:StaD×Nat×Nat) (cs:List Value):Prop:=∃ v,cs=(s.1.cells v).toList∧Owns w s.2.1 9 1 enTx v s.1.names∧∀ k,v.ownBlock=some k→k < s.2.2
def fdNodT (w:World) (n:NodeD×Nat×Nat) (cs:List Value):Prop:=match n with
 | (.ver v,_,_)=>cs=[.iface 31 (.agg v.cells)]
 | (.sta s,lo,hi)=>∃ C:Array Value,cs=[.iface 34 (.agg C)]∧fdStaT w (s,lo,hi) C.toList
 | (.msg m,lo,hi)=>∃ C:Array Value,cs=[.iface 72 (.agg C)]∧fdMsgT w (m,lo,hi) C.toList
 | (.tab t,lo,hi)=>∃ C:Array Value,cs=[.iface 76 (.agg C)]∧fdTabT w (t,lo,hi) C.toList
theorem last_fdSigT:Lasts fdSigT:=fun w w' x cs ⟨v,h1,h2,h3⟩ hb=>⟨v,h1,h2.keep hb lrf,h3⟩
theorem last_fdMsgT:Lasts fdMsgT:=fun w w' x cs ⟨v,T,h1,h2,h3⟩ hb=>⟨v,T,h1,h2.keep last_fdSigT hb,h3⟩
theorem last_fdTabT:Lasts fdTabT:=fun w w' x cs ⟨v,h1,h2,h3⟩ hb=>⟨v,h1,h2.keep hb lrf,h3⟩
theorem last_fdStaT:Lasts fdStaT:=fun w w' x cs ⟨v,h1,h2,h3⟩ hb=>⟨v,h1,h2.keep hb lrf,h3⟩
theorem last_fdNodT:Lasts fdNodT:=fun w w' x cs h hb=>by
 obtain⟨n,lo,hi⟩:=x;cases n with
 | ver v=>exact h
 | sta s=>obtain⟨C,h1,h2⟩:=h;exact⟨C,h1,last_fdStaT _ _ _ _ h2 hb⟩
 | msg m=>obtain⟨C,h1,h2⟩:=h;exact⟨C,h1,last_fdMsgT _ _ _ _ h2 hb⟩
 | tab t=>obtain⟨C,h1,h2⟩:=h;exact⟨C,h1,last_fdTabT _ _ _ _ h2 hb⟩
theorem apt_fdSigT {e:TypeId} (he:9≠e):Apt fdSigT e:=fun w w' x cs k C fz ⟨v,h1,h2,h3⟩ hk _ hb=>⟨v,h1,h2.apt he hk hb,h3⟩
theorem apt_fdMsgT {e:TypeId} (he:9≠e) (he2:89≠e):Apt fdMsgT e:=fun w w' x cs k C fz ⟨v,T,h1,h2,h3⟩ hk hz hb=>⟨v,T,h1,h2.apt he2 (apt_fdSigT he) hk hz hb,h3⟩
theorem apt_fdTabT {e:TypeId} (he:93≠e):Apt fdTabT e:=fun w w' x cs k C fz ⟨v,h1,h2,h3⟩ hk _ hb=>⟨v,h1,h2.apt he hk hb,h3⟩
theorem apt_fdStaT {e:TypeId} (he:9≠e):Apt fdStaT e:=fun w w' x cs k C fz ⟨v,h1,h2,h3⟩ hk _ hb=>⟨v,h1,h2.apt he hk hb,h3⟩
theorem apt_fdNodT {e:TypeId} (he:9≠e) (he2:89≠e) (he3:93≠e):Apt fdNodT e:=fun w w' x cs k C fz h hk hz hb=>by
 obtain⟨n,lo,hi⟩:=x;cases n with
 | ver v=>exact h
 | sta s=>obtain⟨D,h1,h2⟩:=h;exact⟨D,h1,apt_fdStaT he _ _ _ _ _ _ _ h2 hk hz hb⟩
 | msg m=>obtain⟨D,h1,h2⟩:=h;exact⟨D,h1,apt_fdMsgT he he2 _ _ _ _ _ _ _ h2 hk hz hb⟩
 | tab t=>obtain⟨D,h1,h2⟩:=h;exact⟨D,h1,apt_fdTabT he3 _ _ _ _ _ _ _ h2 hk hz hb⟩
theorem OwnRd.fst {α:Type} {rdT:World→α×Nat×Nat→List Value→Prop} {rd:World→α→List Value→Prop} {w:World} {base:Nat} {e:TypeId} {size:Nat} {v:Value} {T:List (α×Nat×Nat)} (h:OwnRd w base e rdT size v T) (hm:∀ x∈T,∀ cs,rdT w x cs→rd w x.1 cs):OwnRd w base e rd size v (T.map Prod.fst):=by
 obtain⟨rows,h1,h2⟩:=h;refine⟨rows,h1,?_⟩;clear h1
 induction h2 with
 | nil=>exact .nil
 | cons a _ ih=>exact .cons (hm _ (by simp) _ a) (ih fun x hx=>hm x (by simp[hx]))
theorem Chn.ge {α:Type} {a b:Nat} {l:List (α×Nat×Nat)} (h:Chn a l b):∀ x∈l,a≤x.2.1∧x.2.2≤b:=by
 induction h with
 | nil h=>intro x hx;cases hx
 | cons h3 h4 h5 ih=>
  intro x hx;have:=h5.le;rcases List.mem_cons.1 hx with rfl|hx
  ·exact⟨h3,this⟩
  ·have:=ih x hx;omega
theorem fd_sigT {w:World} {x:SigX×Nat×Nat} {cs:List Value} (h:fdSigT w x cs) {b:Nat} (hb:b≤x.2.1):fdSigN b w x.1 cs:=by
 obtain⟨v,h1,h2,-⟩:=h;exact⟨v,h1,h2.fromBase hb⟩
theorem fd_msgT {w:World} {m:MsgD×Nat×Nat} {cs:List Value} (h:fdMsgT w m cs) {b:Nat} (hb:b≤m.2.1):fdMsgN b w m.1 cs:=by
 obtain⟨v,T,h1,h2,h3,h4,-⟩:=h;refine⟨v,h1,?_⟩;rw[← h3];exact(h2.fst fun x hx cs hc=>fd_sigT hc (Nat.le_trans hb (h4.ge x hx).1)).fromBase hb
theorem fd_tabT {w:World} {t:TabD×Nat×Nat} {cs:List Value} (h:fdTabT w t cs) {b:Nat} (hb:b≤t.2.1):fdTabN b w t.1 cs:=by
 obtain⟨v,h1,h2,-⟩:=h;exact⟨v,h1,h2.fromBase hb⟩
theorem fd_staT {w:World} {t:StaD×Nat×Nat} {cs:List Value} (h:fdStaT w t cs) {b:Nat} (hb:b≤t.2.1):fdStaN b w t.1 cs:=by
 obtain⟨v,h1,h2,-⟩:=h;exact⟨v,h1,h2.fromBase hb⟩
theorem fd_nodT {w:World} {n:NodeD×Nat×Nat} {cs:List Value} (h:fdNodT w n cs):fdNode w n.1 cs:=by
 obtain⟨n,lo,hi⟩:=n;cases n with
 | ver v=>exact h
 | sta s=>obtain⟨C,h1,h2⟩:=h;exact⟨C,h1,fd_staT h2 (Nat.zero_le _)⟩
 | msg m=>obtain⟨C,h1,h2⟩:=h;exact⟨C,h1,fd_msgT h2 (Nat.zero_le _)⟩
 | tab t=>obtain⟨C,h1,h2⟩:=h;exact⟨C,h1,fd_tabT h2 (Nat.zero_le _)⟩
theorem OwnRd.only {α:Type} {rd:World→α→List Value→Prop} {w w':World} {B kp:Nat} {e:TypeId} {size:Nat} {v:Value} {xs:List α} {ts:List TokD} (h:OwnRd w B e rd size v xs) (hp:PAt w kp ts) (ho:Only kp w w') (he:e≠61) (ha:Apt rd 61):OwnRd w' B e rd size v xs:=by
 obtain⟨a,cap,h1,-⟩:=hp;exact h.apt he ha h1 ho.size fun b hb hne=>ho.block b hb (by simpa using hne)
open Go.Proofs.Tryz
open Go.RowKit Go.Shelf
def MPost (kp:Nat) (w:World) (R:PR MsgD) (e:Ending) (w':World):Prop:=match R with
 | .ok x ts=>∃ C:Array Value,e=.returned (.agg C)∧fdMsgT w' (x,w.heap.size,w'.heap.size) C.toList∧Only kp w w'∧PAt w' kp ts
 | .bad no l c=>e=.panicked [{ v:=faultV no l c,recovered:=false }]∧Only kp w w'
theorem name64_ok {ts ts':List TokD} {x:List UInt8} (h:nameR ts=.ok x ts') (hb:TsB ts):TsB ts'∧x.length≤64:=⟨(name_ok h hb).1,(name_ok h hb).2.2.1⟩
set_option maxRecDepth 100000 in theorem parmsg_any (ts : List TokD) (hts : TsB ts) (kp : Nat) (w : World) (h : PAt w kp ts) (hLs : ∀ W, Only kp w W → PowTab W ∧ SentP W) :
  Calls prog 44 #[.pointer (some ⟨kp,0,none⟩)] w fun e w'=>MPost kp w (messageR ts) e w':=by
 obtain⟨R,hR⟩:∃ R,R=messageR ts:=⟨_,rfl⟩
 rw[← hR];unfold messageR at hR;have HR:=Qh hR;clear hR;have hkw:=h.lt;have HL:=Qh hLs;have hb0:Below w.heap.size w (w.alloc (.cells zeroMsgD 72)):=(Below.refl _ _).alloc lrf _;have HO:=Qh (Only.of_below kp hb0);have HP:=Qh (h.keep hb0);have HZ:=Qh (heap_alloc_new w (.cells zeroMsgD 72));have hf0:=tk_f0;have hf1:=tk_f1;have hf2:=tk_f2;clear hb0 h hLs;have tsB:=hts;go_enter func44,ntmps44
 cases hX:mustR [66,79,95] ts with
 | bad no ln c=>
  have cc:=must_any [66,79,95] ts tsB.1 kp _ HP.out;rw[hX]at cc;unfold PPost at cc;have hr:=HR.out;rw[hX,PR.bind_bad]at hr;have HVR:=Qh hr;clear hr;go_wp2_with fail;(with_reducible refine cc.mono ?_);rintro e w9 ⟨rfl,ho⟩;have HO9:=Qh (HO.out.trans ho);clear ho cc;go_wp2_with fail;exact⟨rfl,by rw[HVR.out];exact⟨rfl,HO9.out⟩⟩
 | ok t ts1=>
  have cc:=must_any [66,79,95] ts tsB.1 kp _ HP.out;rw[hX]at cc;unfold PPost at cc;unfold tkV enTok at cc;have hr:=HR.out;rw[hX,PR.bind_ok]at hr;have HR:=Qh hr;obtain⟨ht',hxx⟩:=must_ok hX tsB;have ts1B:=ht';have HXX:=Qh hxx;clear hr ht' hxx tsB;go_wp2_with fail;(with_reducible refine cc.mono ?_);rintro e W1 ⟨rfl,ho,hp⟩;have HZ:=Qh (kind_only HZ.out (by omega) ho);have HO:=Qh (HO.out.trans ho);have HP:=Qh hp;clear cc ho hp;obtain⟨C0,hC0⟩:∃ C,C=(⟨t.line,t.col,0,false,[],0,[],[]⟩:MsgD).cells (.slice none 0 0):=⟨_,rfl⟩
  have HC0:=Qh hC0;have sC0:C0.size=8:=(by rw[hC0];rfl);have uC0:C0.all (·.oneCell')=true:=(by rw[hC0];exact MsgD.cells_one _ _ _ _);clear hC0;go_upto_region 2 with (refine wpList_newS (Z:=zeroMsgD) (cs:=C0) 72 (.tmp 3) (.tmp 7) (by rw[sC0];exact msg_zero) (by rw[sC0];rfl) uC0 ?_ (hy:=by rw[HC0.out];rfl))
  have hbn:Below W1.heap.size W1 (W1.alloc (.cells C0 72)):=(Below.refl _ _).alloc lrf _;have hkz:w.heap.size < W1.heap.size:=(gE HZ.out)
  have hkm:w.heap.size≤W1.heap.size:=Nat.le_of_lt hkz;have hkkm:kp < W1.heap.size:=(by omega);have HC:=Qh (show(W1.alloc (.cells C0 72)).heap[W1.heap.size]? = some (.cells ((⟨t.line,t.col,0,false,[],0,[],[]⟩:MsgD).cells (.slice none 0 0)) 72)by rw[← HC0.out];exact heap_alloc_new W1 _);have HZ:=Qh (kind_at HZ.out hbn);have HO:=Qh (HO.out.trans (Only.of_below kp hbn));have HP:=Qh (HP.out.keep hbn);clear hbn;generalize hkk:W1.heap.size=km at *;generalize W1.alloc (.cells C0 72)=W2 at *;cases hX:idR ts1 with
  | bad no ln c=>
   have cc:=id_any ts1 ts1B.1 ts1B.head kp _ HP.out (HL.out _ HO.out).1 (HL.out _ HO.out).2;rw[hX]at cc;unfold PPost at cc;have hr:=HR.out;rw[hX,PR.bind_bad]at hr;have HVR:=Qh hr;clear hr;go_wp2_with fail;(with_reducible refine cc.mono ?_);rintro e w9 ⟨rfl,ho⟩;have HO9:=Qh (HO.out.trans ho);clear ho cc;go_wp2_with fail;exact⟨rfl,by rw[HVR.out];exact⟨rfl,HO9.out⟩⟩
  | ok i ts2=>
   have cc:=id_any ts1 ts1B.1 ts1B.head kp _ HP.out (HL.out _ HO.out).1 (HL.out _ HO.out).2;rw[hX]at cc;unfold PPost at cc;have hr:=HR.out;rw[hX,PR.bind_ok]at hr;have HR:=Qh hr;obtain⟨ht',hxx⟩:=id_ok hX ts1B;have ts2B:=ht';have HXX:=Qh hxx;clear hr ht' hxx ts1B;go_wp2_with fail;(with_reducible refine cc.mono ?_);rintro e W3 ⟨rfl,ho,hp⟩;have HZ:=Qh (kind_only HZ.out (by omega) ho);have HC:=Qh (kind_only HC.out (by omega) ho);have HO:=Qh (HO.out.trans ho);have HP:=Qh hp;clear cc ho hp;obtain⟨iN,iB⟩:=i;simp only at *;have c2:=Blk.cell ⟨_,HC.out⟩ 2 (.int .u32 0) rfl;have r2:=Blk.free ⟨_,HC.out⟩ 2;have c3:=Blk.cell ⟨_,HC.out⟩ 3 (.bool false) rfl;have r3:=Blk.free ⟨_,HC.out⟩ 3;have f2_3:∀ v,(W3.setCell ⟨km,2,none⟩ v).cell? ⟨km,3,none⟩=some (.bool false):=fun v=>Blk.cell ⟨_,set_at HC.out 2 v⟩ 3 _ rfl
   have g2_3:∀ v,(W3.setCell ⟨km,2,none⟩ v).frozen? ⟨km,3,none⟩=false:=fun v=>Blk.free ⟨_,set_at HC.out 2 v⟩ 3
   have HC2:=Qh (show((W3.setCell ⟨km,2,none⟩ (.int .u32 (iN:Nat))).setCell ⟨km,3,none⟩ (.bool iB)).heap[km]? = some (.cells ((⟨t.line,t.col,iN,iB,[],0,[],[]⟩:MsgD).cells (.slice none 0 0)) 72)from (set_at (set_at HC.out 2 (.int .u32 (iN:Nat))) 3 (.bool iB)));have HO2:=Qh (Only.new (Only.new HO.out km hkm 2 (.int .u32 (iN:Nat))) km hkm 3 (.bool iB));have HZ2:=Qh (set_ne (set_ne HZ.out (show w.heap.size≠km by omega) 2 (.int .u32 (iN:Nat))) (show w.heap.size≠km by omega) 3 (.bool iB));have HP2:=Qh (PAt.set (PAt.set HP.out hkkm 2 (.int .u32 (iN:Nat))) hkkm 3 (.bool iB));go_upto_region 3 with fail
   clear c2 r2 c3 r3;have HC:=HC2;have HO:=HO2;have HZ:=HZ2;have HP:=HP2;clear HC2 HO2 HZ2 HP2;generalize ((W3.setCell ⟨km,2,none⟩ (.int .u32 (iN:Nat))).setCell ⟨km,3,none⟩ (.bool iB))=W4 at *;cases hX:nameR ts2 with
   | bad no ln c=>
    have cc:=name_any ts2 ts2B.1 (Nat.le_trans ts2B.head (by decide)) kp _ HP.out;rw[hX]at cc;unfold PPost at cc;have hr:=HR.out;rw[hX,PR.bind_bad]at hr;have HVR:=Qh hr;clear hr;go_wp2_with fail;(with_reducible refine cc.mono ?_);rintro e w9 ⟨rfl,ho⟩;have HO9:=Qh (HO.out.trans ho);clear ho cc;go_wp2_with fail;exact⟨rfl,by rw[HVR.out];exact⟨rfl,HO9.out⟩⟩
   | ok nm ts3=>
    have cc:=name_any ts2 ts2B.1 (Nat.le_trans ts2B.head (by decide)) kp _ HP.out;rw[hX]at cc;unfold PPost at cc;have hr:=HR.out;rw[hX,PR.bind_ok]at hr;have HR:=Qh hr;obtain⟨ht',hxx⟩:=name64_ok hX ts2B;have ts3B:=ht';have HXX:=Qh hxx;clear hr ht' hxx ts2B;go_wp2_with fail;(with_reducible refine cc.mono ?_);rintro e W5 ⟨rfl,ho,hp⟩;have HZ:=Qh (kind_only HZ.out (by omega) ho);have HC:=Qh (kind_only HC.out (by omega) ho);have HO:=Qh (HO.out.trans ho);have HP:=Qh hp;clear cc ho hp;have c4:=Blk.cell ⟨_,HC.out⟩ 4 (.string ⟨#[]⟩) rfl;have r4:=Blk.free ⟨_,HC.out⟩ 4;have HC2:=Qh (show(W5.setCell ⟨km,4,none⟩ (.string ⟨nm.toArray⟩)).heap[km]? = some (.cells ((⟨t.line,t.col,iN,iB,nm,0,[],[]⟩:MsgD).cells (.slice none 0 0)) 72)from (set_at HC.out 4 (.string ⟨nm.toArray⟩)));have HO2:=Qh (Only.new HO.out km hkm 4 (.string ⟨nm.toArray⟩));have HZ2:=Qh (set_ne HZ.out (show w.heap.size≠km by omega) 4 (.string ⟨nm.toArray⟩));have HP2:=Qh (PAt.set HP.out hkkm 4 (.string ⟨nm.toArray⟩));go_upto_region 4 with fail
    clear c4 r4;have HC:=HC2;have HO:=HO2;have HZ:=HZ2;have HP:=HP2;clear HC2 HO2 HZ2 HP2;generalize (W5.setCell ⟨km,4,none⟩ (.string ⟨nm.toArray⟩))=W6 at *;cases hX:mustR [58] ts3 with
    | bad no ln c=>
     have cc:=must_any [58] ts3 ts3B.1 kp _ HP.out;rw[hX]at cc;unfold PPost at cc;have hr:=HR.out;rw[hX,PR.bind_bad]at hr;have HVR:=Qh hr;clear hr;go_wp2_with fail;(with_reducible refine cc.mono ?_);rintro e w9 ⟨rfl,ho⟩;have HO9:=Qh (HO.out.trans ho);clear ho cc;go_wp2_with fail;exact⟨rfl,by rw[HVR.out];exact⟨rfl,HO9.out⟩⟩
    | ok tkts4 ts4=>
     have cc:=must_any [58] ts3 ts3B.1 kp _ HP.out;rw[hX]at cc;unfold PPost at cc;have hr:=HR.out;rw[hX,PR.bind_ok]at hr;have HR:=Qh hr;obtain⟨ht',hxx⟩:=must_ok hX ts3B;have ts4B:=ht';have HXX:=Qh hxx;clear hr ht' hxx ts3B;go_wp2_with fail;(with_reducible refine cc.mono ?_);rintro e W7 ⟨rfl,ho,hp⟩;have HZ:=Qh (kind_only HZ.out (by omega) ho);have HC:=Qh (kind_only HC.out (by omega) ho);have HO:=Qh (HO.out.trans ho);have HP:=Qh hp;clear cc ho hp;cases hX:wholeR 2147483648 ts4 with
     | bad no ln c=>
      have cc:=whole31_any ts4 ts4B.1 ts4B.head kp _ HP.out (HL.out _ HO.out).1 (HL.out _ HO.out).2;rw[hX]at cc;unfold PPost at cc;have hr:=HR.out;rw[hX,PR.bind_bad]at hr;have HVR:=Qh hr;clear hr;go_wp2_with fail;(with_reducible refine cc.mono ?_);rintro e w9 ⟨rfl,ho⟩;have HO9:=Qh (HO.out.trans ho);clear ho cc;go_wp2_with fail;exact⟨rfl,by rw[HVR.out];exact⟨rfl,HO9.out⟩⟩
     | ok sz ts5=>
      have cc:=whole31_any ts4 ts4B.1 ts4B.head kp _ HP.out (HL.out _ HO.out).1 (HL.out _ HO.out).2;rw[hX]at cc;unfold PPost at cc;have hr:=HR.out;rw[hX,PR.bind_ok]at hr;have HR:=Qh hr;obtain⟨ht',hxx⟩:=whole_ok hX ts4B;have ts5B:=ht';have HXX:=Qh hxx;clear hr ht' hxx ts4B;go_wp2_with fail;(with_reducible refine cc.mono ?_);rintro e W8 ⟨rfl,ho,hp⟩;have HZ:=Qh (kind_only HZ.out (by omega) ho);have HC:=Qh (kind_only HC.out (by omega) ho);have HO:=Qh (HO.out.trans ho);have HP:=Qh hp;clear cc ho hp;have hsz:=HXX.out.1;have c5:=Blk.cell ⟨_,HC.out⟩ 5 (.int .i64 0) rfl;have r5:=Blk.free ⟨_,HC.out⟩ 5;have HC2:=Qh (show(W8.setCell ⟨km,5,none⟩ (.int .i64 (sz:Nat))).heap[km]? = some (.cells ((⟨t.line,t.col,iN,iB,nm,sz,[],[]⟩:MsgD).cells (.slice none 0 0)) 72)from (set_at HC.out 5 (.int .i64 (sz:Nat))));have HO2:=Qh (Only.new HO.out km hkm 5 (.int .i64 (sz:Nat)));have HZ2:=Qh (set_ne HZ.out (show w.heap.size≠km by omega) 5 (.int .i64 (sz:Nat)));have HP2:=Qh (PAt.set HP.out hkkm 5 (.int .i64 (sz:Nat)));go_upto_region 6 with fail
      clear c5 r5;have HC:=HC2;have HO:=HO2;have HZ:=HZ2;have HP:=HP2;clear HC2 HO2 HZ2 HP2;generalize (W8.setCell ⟨km,5,none⟩ (.int .i64 (sz:Nat)))=W9 at *;cases hX:nameR ts5 with
      | bad no ln c=>
       have cc:=name_any ts5 ts5B.1 (Nat.le_trans ts5B.head (by decide)) kp _ HP.out;rw[hX]at cc;unfold PPost at cc;have hr:=HR.out;rw[hX,PR.bind_bad]at hr;have HVR:=Qh hr;clear hr;go_wp2_with fail;(with_reducible refine cc.mono ?_);rintro e w9 ⟨rfl,ho⟩;have HO9:=Qh (HO.out.trans ho);clear ho cc;go_wp2_with fail;exact⟨rfl,by rw[HVR.out];exact⟨rfl,HO9.out⟩⟩
      | ok sd ts6=>
       have cc:=name_any ts5 ts5B.1 (Nat.le_trans ts5B.head (by decide)) kp _ HP.out;rw[hX]at cc;unfold PPost at cc;have hr:=HR.out;rw[hX,PR.bind_ok]at hr;have HR:=Qh hr;obtain⟨ht',hxx⟩:=name64_ok hX ts5B;have ts6B:=ht';have HXX:=Qh hxx;clear hr ht' hxx ts5B;go_wp2_with fail;(with_reducible refine cc.mono ?_);rintro e W10 ⟨rfl,ho,hp⟩;have HZ:=Qh (kind_only HZ.out (by omega) ho);have HC:=Qh (kind_only HC.out (by omega) ho);have HO:=Qh (HO.out.trans ho);have HP:=Qh hp;clear cc ho hp;have c6:=Blk.cell ⟨_,HC.out⟩ 6 (.string ⟨#[]⟩) rfl;have r6:=Blk.free ⟨_,HC.out⟩ 6;have HC2:=Qh (show(W10.setCell ⟨km,6,none⟩ (.string ⟨sd.toArray⟩)).heap[km]? = some (.cells ((⟨t.line,t.col,iN,iB,nm,sz,sd,[]⟩:MsgD).cells (.slice none 0 0)) 72)from (set_at HC.out 6 (.string ⟨sd.toArray⟩)));have HO2:=Qh (Only.new HO.out km hkm 6 (.string ⟨sd.toArray⟩));have HZ2:=Qh (set_ne HZ.out (show w.heap.size≠km by omega) 6 (.string ⟨sd.toArray⟩));have HP2:=Qh (PAt.set HP.out hkkm 6 (.string ⟨sd.toArray⟩));go_upto_region 7 with fail
       clear c6 r6;have HC:=HC2;have HO:=HO2;have HZ:=HZ2;have HP:=HP2;clear HC2 HO2 HZ2 HP2;generalize (W10.setCell ⟨km,6,none⟩ (.string ⟨sd.toArray⟩))=W11 at *;obtain⟨KF,hKR,hKF⟩:∃ KF:List SigX→List TokD→PR MsgD,R=(sgsF ts6.length [] ts6).bind KF∧KF=fun l ts=>.ok ⟨t.line,t.col,iN,iB,nm,sz,sd,l⟩ ts:=⟨_,HR.out,rfl⟩
       have HKR:=Qh hKR;have HKF:=Qh hKF;clear hKR hKF;go_wp2_with fail;go_loopw [] (fun wr=>∃ (T:List (SigX×Nat×Nat)) (v:Value) (tz:List TokD) (g:Nat),TsB tz∧tz.length≤g∧T.length≤64∧R=(sgsF g (T.map Prod.fst) tz).bind KF∧PAt wr kp tz∧Only kp w wr∧wr.heap[km]? = some (.cells ((⟨t.line,t.col,iN,iB,nm,sz,sd,[]⟩:MsgD).cells (v)) 72)∧wr.heap[w.heap.size]? = some (.cells zeroMsgD 72)∧OwnRd wr w.heap.size 89 fdSigT 19 v T∧Chn w.heap.size T wr.heap.size) (fun wr=>cntP wr kp)
       case atStart=>exact⟨[],_,ts6,ts6.length,ts6B,lrf,by simp,HKR.out,HP.out,HO.out,HC.out,HZ.out,OwnRd.nil _ _ _ _ _,.nil HO.out.size⟩
       case round=>
        obtain⟨T,v,tz,g,htz,hg,hT64,hRz,hpz,hoz,hcz,hzz,hown,hch⟩:=hrel;have hpos:=htz.1.pos;obtain⟨g',rfl⟩:∃ g',g=g' + 1:=⟨g - 1,by omega⟩
        have cm:=sees_any [83,71,95] tz hpos kp wr hpz;have HRz:=Qh (show R=(if seesB [83,71,95] tz then (if (T.map Prod.fst).length=64 then wrongR 5 tz else (sigR tz).bind fun x ts'=>sgsF g' (T.map Prod.fst++[x]) ts') else .ok (T.map Prod.fst) tz:PR (List SigX)).bind KF from hRz);clear hRz;generalize seesB [83,71,95] tz=SB at *;have HOz:=Qh hoz;have HCz:=Qh hcz;have HZz:=Qh hzz;have HOW:=Qh hown;have HPz:=Qh hpz;have HCH:=Qh hch;have HCN:=Qh (PAt.cnt hpz);clear hpz hoz hcz hzz hown hch;obtain⟨av,cv,rfl,-⟩:=HOW.out.shape;go_wp2_with fail;(with_reducible refine cm.mono ?_);rintro e W40 ⟨rfl,hb⟩;have HOe:=Qh (HOz.out.trans (Only.of_below kp hb));have HPe:=Qh (HPz.out.keep hb);have HCe:=Qh (kind_at HCz.out hb);have HZe:=Qh (kind_at HZz.out hb);have HOWN:=Qh (HOW.out.keep last_fdSigT hb);have HCHe:=Qh (HCH.out.mono hb.size);clear cm hb;cases SB
        ·have hv1:R=KF (T.map Prod.fst) tz:=HRz.out;rw[HKF.out]at hv1;have HV:=Qh hv1;clear hv1;have hce:=HCe.out;have hze:=HZe.out;obtain⟨CC,hCC⟩:∃ C,C=(⟨t.line,t.col,iN,iB,nm,sz,sd,[]⟩:MsgD).cells (.slice av T.length cv):=⟨_,rfl⟩
         rw[← hCC]at hce;have HCC:=Qh hCC;have sCC:CC.size=8:=(by rw[hCC];rfl);have uCC:CC.all (·.oneCell')=true:=(by rw[hCC];exact MsgD.cells_one _ _ _ _);have bks:Blk W40 km CC:=⟨_,hce⟩
         have bz:Blk W40 w.heap.size zeroMsgD:=⟨_,hze⟩
         have huS:=underlying72;clear hce hze hCC;go_wp2_with (first|(refine wpList_loadS bks 72 (.tmp 3) huS (by rw[sCC];exact msg_size) ?_)|(refine wpList_storeS (cs:=CC) bz 72 (.tmp 2) (.tmp 42) (by rw[sCC];exact msg_size) (by rw[sCC];rfl) uCC ?_))
         have hrun:=run_loadS (bz.row CC) 72 _ huS rfl (by rw[sCC];exact msg_size);refine bodyPost_ret (v:=.agg CC) (by simp[results,results44,Act.put,asAddr,hrun]) rfl ?_;rw[HV.out];refine⟨CC,rfl,⟨.slice av T.length cv,T,by rw[HCC.out];rfl,?_,rfl,?_,?_⟩,HOe.out.row _ lrf CC,HPe.out.row hkw CC⟩
         ·exact HOWN.out.apt (by decide) (apt_fdSigT (by decide)) HZe.out (by simp[World.setRow]) (fun b _ hne=>heap_setRow_other _ _ _ _ hne)
         ·exact HCHe.out.mono (by simp[World.setRow])
         ·intro k hk;obtain⟨rows,hrw,-⟩:=HOWN.out;have:=(hrw.lt k hk).2
          simpa [World.setRow]using this
        ·have c7:=Blk.cell ⟨_,HCe.out⟩ 7 (.slice av T.length cv) rfl;have r7:=Blk.free ⟨_,HCe.out⟩ 7;by_cases h64:T.length=64
         ·have hv1:R=.bad 5 (headT tz).line (headT tz).col:=by
           rw[HRz.out,if_pos rfl,if_pos (by rw[List.length_map];exact h64)];rfl
          have HV:=Qh hv1;clear hv1;have cw:=wrong_any 5 tz hpos kp _ HPe.out;rw[h64]at c7;go_wp2_with fail;(with_reducible refine cw.mono ?_);rintro e W41 ⟨rfl,hb⟩;have HO9:=Qh (HOe.out.trans (Only.of_below kp hb));clear cw hb;go_wp2_with fail;exact⟨rfl,by rw[HV.out];exact⟨rfl,HO9.out⟩⟩
         ·have hv1:R=((sigR tz).bind fun x ts'=>sgsF g' (T.map Prod.fst++[x]) ts').bind KF:=by
           rw[HRz.out,if_pos rfl,if_neg (by rw[List.length_map];exact h64)]
          have HV:=Qh hv1;clear hv1;have h64i:((T.length:Int) == 64)=false:=bN (by omega);have HOd:=Qh (HOe.out.trans (Only.of_below kp (Below.refl W40.heap.size W40).drew));have HPd:=Qh (HPe.out.keep (Below.refl W40.heap.size W40).drew);have cn:=psignal_any tz htz kp W40.drew HPd.out (fun W hW=>HL.out W (HOd.out.trans hW));cases hX:sigR tz with
          | bad no ln c=>
           rw[hX]at cn;unfold SPost at cn;have hr:=HV.out;rw[hX,PR.bind_bad,PR.bind_bad]at hr;have HVR:=Qh hr;clear hr hX;go_wp2_with fail;refine wp_region_heldL 7 (fun (w':World)=>w'.cell? ⟨km,7,none⟩=some (.slice av T.length cv)) (by kernel_rfl) c7 (fun hHeld=>?_);refine hL 0 ?_;try simp only[spt]
           refine hL 1 ?_;try simp only[spt]
           refine hL 2 ?_;try simp only[spt]
           refine heldL_call 3 rfl (by kernel_rfl) (fun K hK=>?_);go_simp;(with_reducible refine cn.mono ?_);rintro e W41 ⟨rfl,ho⟩;have HO9:=Qh (HOd.out.trans ho);clear ho cn;dsimp only;go_wp2_with fail;exact⟨rfl,by rw[HVR.out];exact⟨rfl,HO9.out⟩⟩
          | ok x tzu=>
           rw[hX]at cn;unfold SPost at cn;have hr:=HV.out;rw[hX,PR.bind_ok]at hr;have HVR:=Qh hr;obtain⟨hub,hult⟩:=sig_takes _ _ _ hX htz;clear hr hX;go_wp2_with fail;refine wp_region_heldL 7 (fun (w':World)=>w'.cell? ⟨km,7,none⟩=some (.slice av T.length cv)) (by kernel_rfl) c7 (fun hHeld=>?_);refine hL 0 ?_;try simp only[spt]
           refine hL 1 ?_;try simp only[spt]
           refine hL 2 ?_;try simp only[spt]
           refine heldL_call 3 rfl (by kernel_rfl) (fun K hK=>?_);go_simp;(with_reducible refine cn.mono ?_);rintro e W41 ⟨D6,rfl,hfd,ho,hp⟩;have hD6:D6.size=19:=(by have:=fdSig_size hfd;rwa [Array.length_toList]at this);have hD1:=fdSig_one hfd;have hfold:=fold_set zeroSig D6 19 hD6 rfl;have hs4041:W40.heap.size≤W41.heap.size:=ho.size;have HFD:=Qh (show fdSigT W41 (x,W40.heap.size,W41.heap.size) D6.toList from by
            obtain⟨u,h1,h2⟩:=hfd;exact⟨u,h1,h2,fun k hk=>(h2.lt k hk).2⟩)
           have HC41:=Qh (kind_only (W:=W40.drew) HCe.out (by omega) ho);have HZ41:=Qh (kind_only (W:=W40.drew) HZe.out (by omega) ho);have HO41:=Qh (HOd.out.trans ho);have HP41:=Qh hp;have HW41:=Qh (OwnRd.only (w:=W40.drew) (HOWN.out.keep last_fdSigT (Below.refl W40.heap.size W40).drew) HPd.out ho (by decide) (apt_fdSigT (by decide)));have c7b:=Blk.cell ⟨_,HC41.out⟩ 7 (.slice av T.length cv) rfl;have hb5:Below W41.heap.size W41 (W41.alloc (.cells D6 89)):=(Below.refl _ _).alloc lrf _;clear cn ho hp hfd;clear hHeld;refine hK.out _ _ ?_ (fun hHeld=>?_)
           ·exact c7b
           clear hK K;try simp only[spt]
           refine heldL_call 4 rfl (by kernel_rfl) (fun K hK=>?_);go_simp;clear hHeld;refine hK.out _ _ ?_ (fun hHeld=>?_)
           ·exact cell_keep' c7b hb5
           clear hK K;try simp only[spt]
           refine heldL_call 5 rfl (by kernel_rfl) (fun K hK=>?_);have HC42:=Qh (kind_at HC41.out hb5);have HZ42:=Qh (kind_at HZ41.out hb5);have HO42:=Qh (HO41.out.trans (Only.of_below kp hb5));have HP42:=Qh (HP41.out.keep hb5);have HW42:=Qh (HW41.out.keep last_fdSigT hb5);have HFD42:=Qh (last_fdSigT _ _ _ _ HFD.out hb5);have hn42:=heap_alloc_new W41 (.cells D6 89);have hs42:w.heap.size≤(W41.alloc (.cells D6 89)).heap.size:=HO42.out.size;have hs415a:=hb5.size;clear hb5;generalize W41.alloc (.cells D6 89)=W42 at *;refine step_append_rd last_fdSigT sigs_ty T (x,W40.heap.size,W41.heap.size) (g:=W41.heap.size) (cells:=D6) HW42.out (Below.refl w.heap.size W42) hs42 (by omega) hn42 HFD42.out hD6 hD1 (apt_fdSigT (by decide)) ?_;rintro v5 w5 hown5 hb6 hgr5 -;obtain⟨a5,n5,c5,hv5⟩:∃ a n c,v5=.slice a n c:=by obtain⟨a5,c5,e,-⟩:=hown5.shape;exact⟨_,_,_,e⟩
           subst hv5;obtain⟨rows42,hr42,-⟩:=HW42.out;have HC5:=Qh (heap_grown2 HC42.out hr42 (by decide) hgr5);have HZ5:=Qh (heap_grown2 HZ42.out hr42 (by decide) hgr5);have HO5:=Qh (Only.low HO42.out hb6);have HP5:=Qh (PAt.low HP42.out hkw hb6);have hs415:W41.heap.size≤w5.heap.size:=Nat.le_trans hs415a hgr5.size;have hcv5:=Blk.cell ⟨_,HC5.out⟩ 7 (.slice av T.length cv) rfl;have hfr5:=Blk.free ⟨_,HC5.out⟩ 7;clear hb6 hgr5 hn42 hs42 hr42 hfold;clear hHeld;refine hK.out _ _ ?_ (fun hHeld=>?_)
           ·exact hcv5
           clear hK K;try simp only[spt]
           refine hL 6 ?_;try simp only[spt]
           refine heldL_last 7 rfl (by kernel_rfl) (by kernel_rfl) (fun K hK=>?_);go_simp;refine hK.out _ _ ?_;clear hK K;try simp only[spt]
           refine wpAnyL_done (by kernel_rfl) ?_ _;have HC6:=Qh (set_at HC5.out 7 (.slice a5 n5 c5));have HZ6:=Qh (set_ne HZ5.out (show w.heap.size≠km by omega) 7 (.slice a5 n5 c5));have HO6:=Qh (Only.new HO5.out km hkm 7 (.slice a5 n5 c5));have HP6:=Qh (PAt.set HP5.out hkkm 7 (.slice a5 n5 c5));have OW6:=Qh (hown5.apt (by decide) (apt_fdSigT (by decide)) HC5.out (by simp[World.setCell]) (fun b _ hne=>Below.heap_setCell _ ⟨km,7,none⟩ (.slice a5 n5 c5) b hne));have HCN6:=Qh (PAt.cnt HP6.out);clear hown5 hcv5 hfr5 c7 r7 c7b;go_wp2_with fail;go_roundw;case rel=>exact⟨T++[(x,W40.heap.size,W41.heap.size)],_,tzu,g',hub,by omega,by simp only[List.length_append,List.length_cons,List.length_nil];omega,by rw[List.map_append];exact HVR.out,HP6.out,HO6.out,HC6.out,HZ6.out,OW6.out,(HCHe.out.snoc x lrf hs4041).mono (by simpa [World.setCell]using hs415)⟩
           case measure=>rw[HCN6.out,HCN.out];omega
end Go.Proofs.YtkblpaabknjckaaGreatDoor
