/-
  busbarlaw06's read: contract.
-/
import Derived.Test.YtkblpaabknjckaaGreatDoorAppC
import Derived.Test.YtkblpaabknjckaaGreatDoorPrsO
import Derived.Test.YtkblpaabknjckaaGreatDoorGat6
import Derived.Test.YtkblpaabknjckaaGreatDoorPrsS
import Derived.Test.YtkblpaabknjckaaGreatDoorSamA
set_option maxHeartbeats 128000000
set_option linter.unusedVariables false
namespace Go.Proofs.YtkblpaabknjckaaGreatDoor
open Go.RowKit
theorem fdDb_shape {b:Nat} {w:World} {x:DbD} {C:Array Value} (h:fdDbN b w x C.toList):C.size=9∧C.all (·.oneCell')=true:=by
 obtain⟨u,v,z,e,h1,h2,h3⟩:=h;obtain rfl:=Array.toList_inj.1 e;obtain⟨a,c,rfl,-⟩:=h1.shape;obtain⟨a,c,rfl,-⟩:=h2.shape;obtain⟨a,c,rfl,-⟩:=h3.shape;exact⟨rfl,by unfold DbD.cells;simp[Value.oneCell']⟩
open Go.Proofs.Tryz
open Go.RowKit Go.Shelf
theorem fit6 {d:DbD} {n:Nat} (h:DbBd d n):∀ x∈nodsD d,NodFit x:=by
 unfold nodsD;intro x hx;rcases List.mem_append.1 hx with hx|hx
 ·cases hd:d.has<;>simp[hd]at hx
  subst hx;trivial
 ·rcases List.mem_cons.1 hx with rfl|hx
  ·exact h.nam
  ·rcases List.mem_append.1 hx with hx|hx
   ·obtain⟨m,hm,rfl⟩:=List.mem_map.1 hx;have:=h.msg m hm;exact⟨by have:=this.1;omega,this.2⟩
   ·obtain⟨t,ht,rfl⟩:=List.mem_map.1 hx;have:=h.tab t ht;show t.rows.length≤4000000;omega
theorem nods_len6 {d:DbD} {n:Nat} (h:DbBd d n):(nodsD d).length≤n+514:=by
 unfold nodsD;have h1:=h.mln;have h2:=h.tln;have:(if d.has then [NodeD.ver d.ver] else []).length≤1:=by cases d.has<;>simp
 simp only[List.length_append,List.length_cons,List.length_map];omega
theorem sl_nodes6 {w:World} {base:Nat} {T:List (NodeD×Nat×Nat)} {d:DbD} {aa:Option Addr} {N ca:Nat} (h:OwnRd w base 64 fdNodT 1 (.slice aa N ca) T) (hf:T.map Prod.fst=nodsD d):SlRd w rdNode 1 aa ca (nodsD d):=by
 have h2:=h.fst (rd:=fdNode) fun x _ cs hc=>fd_nodT hc
 rw[hf]at h2;obtain⟨a,c,e,hs⟩:=h2.shape;injection e with e1 e2 e3
 rw[e1,e3];exact hs.weak fun _ _=>fd_node
theorem gather6_any (d:DbD) (hb:DbBd d 1048577) (hv:VerOK d) (n:Nat) (hn:n=(nodsD d).length) (a:Option Addr) (cap:Nat) (w:World) (hs:SlRd w rdNode 1 a cap (nodsD d)) :
  Calls prog 7 #[.slice a n cap] w fun e w'=>∃ C:Array Value,e=.returned (.tuple #[.agg C,.nilIface])∧fdDb w' d C.toList∧Below w.heap.size w w':=by
 have hl:=nods_len6 hb;refine(gather_any (nodsD d) (fit6 hb) n hn (by omega) a cap w hs).mono ?_;rintro e w' ⟨v,rfl,hg,hbel⟩;rw[gat6_read d hv]at hg;obtain⟨C,rfl,hf⟩:=hg;exact⟨C,rfl,hf,hbel⟩
end Go.Proofs.YtkblpaabknjckaaGreatDoor
