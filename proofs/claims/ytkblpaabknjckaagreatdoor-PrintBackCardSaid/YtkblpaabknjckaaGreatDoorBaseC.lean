/-
  Generic lemmas: slices of the call's own, told apart; an append that tells whether it grew; a store of a whole element.
-/
import Derived.Test.YtkblpaabknjckaaGreatDoorBaseD
import Derived.Lib.OwnKind
import Derived.Deep.RegionHeld3
set_option maxHeartbeats 128000000
set_option linter.unusedVariables false
namespace Go.Proofs.YtkblpaabknjckaaGreatDoor
open Go.RowKit
theorem held_take {P:Program} {md:Region.Mode} {ops:Array Oper} {Q:Exit→Act→World→Prop} {S:World→Prop} (i:Nat) {oi:Oper} {v:Value} {fuel:Nat} {listed:Array Bool} {a:Act} {w:World} (hi:ops.toList[i]? = some oi)
  (hs:Region.noSelect ops=true) (hf:Region.free md ops listed i=true) (hr:(Region.ready md ops listed).contains i=true)
  (hQ:∀ c a w,Q (.panic c) (a.put oi.dst v) w→Q (.panic c) a w) (hS:S w) (hy:YieldsIf P ops S oi v a)
  (h:wpAnyH P md ops Q S fuel (listed.setIfInBounds i true) (a.put oi.dst v) w):wpAnyH P md ops Q S (fuel+1) listed a w:=
 wpAnyH_take (by rw[← Array.getElem?_toList];exact hi) hs hf hr hQ hy hS h
theorem held_call {P:Program} {md:Region.Mode} {ops:Array Oper} {Q:Exit→Act→World→Prop} {S:World→Prop} (i:Nat) {o:Oper} {fuel:Nat} {listed:Array Bool} {a:Act} {w:World} (ho:ops.toList[i]? = some o) (hr:Region.ready md ops listed=[i])
  (h:∀ K':Act→World→Prop,Shut (∀ a w,S w→(S w→wpAnyH P md ops Q S fuel (listed.setIfInBounds i true) a w)→K' a w)→if Region.wanted o (yielded ops a.tmps)=true then Oper.wp P o a w K' Q else K' (a.put o.dst undef) w) :
  wpAnyH P md ops Q S (fuel+1) listed a w:=
 wpAnyH_ready (rs:=[i]) hr (by simp) (AllReadyH.cons (by rw[← Array.getElem?_toList];exact ho) h AllReadyH.nil)
theorem hT {P:Program} {md:Region.Mode} {ops:Array Oper} {Q:Exit→Act→World→Prop} {S:World→Prop} (i:Nat) {oi:Oper} {v:Value} {fuel:Nat} {listed:Array Bool} {a:Act} {w:World}
  (h:wpAnyH P md ops Q S fuel (listed.setIfInBounds i true) (a.put oi.dst v) w) (hi:ops.toList[i]? = some oi:=by rfl)
  (hs:Region.noSelect ops=true:=by kernel_rfl) (hf:Region.free md ops listed i=true:=by kernel_rfl) (hr:(Region.ready md ops listed).contains i=true:=by kernel_rfl)
  (hQ:∀ c a w,Q (.panic c) (a.put oi.dst v) w→Q (.panic c) a w:=by exact fun _ _ _ h=>h) (hS:S w:=by assumption)
  (hy:YieldsIf P ops S oi v a:=by first|(refine Or.inr ⟨?_,?_⟩<;>rfl)|(refine Or.inl ⟨by rfl,?_⟩;intro w hSw;(try dsimp only at hSw);first|(go_simp;done)|(go_simp;with_reducible rfl))):wpAnyH P md ops Q S (fuel+1) listed a w:=
 held_take i hi hs hf hr hQ hS hy h
theorem spt:(∀ (a:Act) (d:Tmp) (v:Value),a.put (some d) v = { a with tmps:=a.tmps.setIfInBounds d v })∧(∀ (a:Act) (v:Value),a.put none v=a)∧(∀ (l:List Value) (i:Nat) (x:Value),l.toArray.setIfInBounds i x=(l.set i x).toArray)∧(∀ (l:List Bool) (i:Nat) (x:Bool),l.toArray.setIfInBounds i x=(l.set i x).toArray) ∧
  (∀ (x y:Value) (l:List Value),(x::l).set 0 y=y::l)∧(∀ (x y:Bool) (l:List Bool),(x::l).set 0 y=y::l)∧(∀ (x y:Value) (l:List Value) (i:Nat),(x::l).set (i+1) y=x::l.set i y)∧(∀ (x y:Bool) (l:List Bool) (i:Nat),(x::l).set (i+1) y=x::l.set i y):=
 ⟨fun _ _ _=>rfl,fun _ _=>rfl,fun _ _ _=>List.setIfInBounds_toArray ..,fun _ _ _=>List.setIfInBounds_toArray ..,fun _ _ _=>rfl,fun _ _ _=>rfl,fun _ _ _ _=>rfl,fun _ _ _ _=>rfl⟩
theorem frozen_keep {w w':World} {a:Addr} (hb:Below w.heap.size w w') (hB:a.block < w.heap.size):w'.frozen? a=w.frozen? a:=World.frozen?_of_block (hb.block _ hB)
theorem Owns.kind {α β:Type} {w:World} {base base':Nat} {e e':TypeId} {size size':Nat} {en:α→List Value} {en':β→List Value} {v v':Value} {xs:List α} {ys:List β} (h:Owns w base e size en v xs) (h':Owns w base' e' size' en' v' ys) (he:e≠e'):Apart v v':=by
 intro k h1 h2;obtain⟨c,fz,h3⟩:=Lib.ownsRow_kind h k h1;obtain⟨c',fz',h4⟩:=Lib.ownsRow_kind h' k h2;rw[h3]at h4;cases h4
 exact he rfl
theorem Owns.fromBase {α:Type} {w:World} {base base':Nat} {e:TypeId} {size:Nat} {en:α→List Value} {v:Value} {xs:List α} (h:Owns w base e size en v xs) (hb:base'≤base):Owns w base' e size en v xs:=by
 refine⟨h.1,?_⟩;rcases h.2 with h0|⟨g,cap,cur,hv,h1,h2⟩
 ·exact .inl h0
 ·exact .inr ⟨g,cap,cur,hv,by omega,h2⟩
def setRow (w:World) (g:Nat):Nat→List Value→World
 | _,[]=>w
 | o,v::vs=>setRow (w.setCell ⟨g,o,none⟩ v) g (o+1) vs
def setMany:List Value→Nat→List Value→List Value
 | cs,_,[]=>cs
 | cs,o,v::vs=>setMany (cs.set o v) (o+1) vs
theorem ownsRow_setRow {w:World} {base:Nat} {e:TypeId} {size:Nat} {g n m cap:Nat} {cs:List Value} (o:Nat) (vs:List Value) (h:w.ownsRow base e size (.slice (some ⟨g,0,none⟩) n cap) m cs) (ho:o+vs.length≤cs.length) :
  (setRow w g o vs).ownsRow base e size (.slice (some ⟨g,0,none⟩) n cap) m (setMany cs o vs):=by
 induction vs generalizing w o cs with
 | nil=>exact h
 | cons v vs ih=>
  rw[setRow,setMany];simp only[List.length_cons]at ho;refine ih (o+1) ?_ (by rw[List.length_set];omega);refine⟨by rw[List.length_set];exact h.1,.inr ?_⟩;rcases h.2 with ⟨hv,_⟩|⟨g',cap',cur,hv,hb,hg,hle,hm,hs,htk⟩
  ·cases hv
  ·cases hv
   refine⟨g,cap,cur.setIfInBounds o v,rfl,hb,?_,hle,hm,by simpa using hs,?_⟩
   ·simp[World.setCell,Array.getElem?_modify,hg]
   ·rw[Array.toList_setIfInBounds,List.take_set,← htk]
theorem Below.ofGrown {w w':World} (h:w.grownBy w' none):Below w.heap.size w w':=⟨h.os,h.tape,h.output,h.size,fun k hk=>h.block k hk (by simp)⟩
section
variable {α:Type} (en:α→List Value) (size:Nat) (e e2:TypeId) (base m:Nat) (vs:Nat→Value) (lsv:Value) (w0:World) (mk:Nat→Nat→α) (n:Nat→Nat)
end
section
variable {α:Type} {en:α→List Value} {size:Nat} {e e2:TypeId} {base m:Nat} {vs:Nat→Value} {lsv:Value} {w0:World} {mk:Nat→Nat→α} {n:Nat→Nat}
end
end Go.Proofs.YtkblpaabknjckaaGreatDoor
