/-
  The Book of a law: are all its lists apart? (Printed by gen_bokd.py.)
-/
import Derived.Test.YtlacjhjckkablaaGreatDoorNotA
import Derived.Test.YtlacjhjckkablaaGreatDoorBaseD
import Derived.Test.YtlacjhjckkablaaGreatDoorBaseC
import Derived.Test.YtlacjhjckkablaaGreatDoorCopC
import Derived.BigQuiet
import Derived.Great.Walk
import Derived.Test.YtlacjhjckkablaaGreatDoorAptR
set_option maxHeartbeats 128000000
set_option linter.unusedVariables false
set_option linter.unusedSimpArgs false
namespace Go.Proofs.YtlacjhjckkablaaGreatDoor
open Go.Proofs.Tryz
open Go.RowKit
set_option maxRecDepth 100000 in theorem apartBytes_nil (w : World) : Calls prog 41 #[.slice none 0 0] w fun e w' => e = .returned (.bool true) ∧ Below w.heap.size w w' := by
 go_enter func41,ntmps41
 go_wp2_with fail;go_loopw [3] (fun v wr=>v=.int .i64 0∧Below w.heap.size w wr) (fun _ _=>0)
 case atStart=>exact⟨rfl,Below.refl _ _⟩
 case round=>
  obtain⟨rfl,hb⟩:=hrel;go_wp2_with fail;go_loopw [5,6] (fun u v wr=>u=.slice none 0 0∧v=.int .i64 0∧Below w.heap.size w wr) (fun _ _ _=>0)
  case atStart=>exact⟨rfl,rfl,hb⟩
  case round=>
   clear hb;obtain⟨rfl,rfl,hb⟩:=hrel;go_wp2_with fail;go_loopw [9] (fun v wr=>v=.int .i64 0∧Below w.heap.size w wr) (fun _ _=>0)
   case atStart=>exact⟨rfl,hb⟩
   case round=>
    clear hb;obtain⟨rfl,hb⟩:=hrel;go_wp2_with fail;go_ret;exact⟨rfl,hb⟩
set_option maxRecDepth 100000 in theorem apartInts_nil (w : World) : Calls prog 43 #[.slice none 0 0] w fun e w' => e = .returned (.bool true) ∧ Below w.heap.size w w' := by
 go_enter func43,ntmps43
 go_wp2_with fail;go_loopw [3] (fun v wr=>v=.int .i64 0∧Below w.heap.size w wr) (fun _ _=>0)
 case atStart=>exact⟨rfl,Below.refl _ _⟩
 case round=>
  obtain⟨rfl,hb⟩:=hrel;go_wp2_with fail;go_loopw [5,6] (fun u v wr=>u=.slice none 0 0∧v=.int .i64 0∧Below w.heap.size w wr) (fun _ _ _=>0)
  case atStart=>exact⟨rfl,rfl,hb⟩
  case round=>
   clear hb;obtain⟨rfl,rfl,hb⟩:=hrel;go_wp2_with fail;go_loopw [9] (fun v wr=>v=.int .i64 0∧Below w.heap.size w wr) (fun _ _=>0)
   case atStart=>exact⟨rfl,hb⟩
   case round=>
    clear hb;obtain⟨rfl,hb⟩:=hrel;go_wp2_with fail;go_ret;exact⟨rfl,hb⟩
set_option maxRecDepth 100000 in theorem apartNumbers_nil (w : World) : Calls prog 44 #[.slice none 0 0] w fun e w' => e = .returned (.bool true) ∧ Below w.heap.size w w' := by
 go_enter func44,ntmps44
 go_wp2_with fail;go_loopw [3] (fun v wr=>v=.int .i64 0∧Below w.heap.size w wr) (fun _ _=>0)
 case atStart=>exact⟨rfl,Below.refl _ _⟩
 case round=>
  obtain⟨rfl,hb⟩:=hrel;go_wp2_with fail;go_loopw [5,6] (fun u v wr=>u=.slice none 0 0∧v=.int .i64 0∧Below w.heap.size w wr) (fun _ _ _=>0)
  case atStart=>exact⟨rfl,rfl,hb⟩
  case round=>
   clear hb;obtain⟨rfl,rfl,hb⟩:=hrel;go_wp2_with fail;go_loopw [9] (fun v wr=>v=.int .i64 0∧Below w.heap.size w wr) (fun _ _=>0)
   case atStart=>exact⟨rfl,hb⟩
   case round=>
    clear hb;obtain⟨rfl,hb⟩:=hrel;go_wp2_with fail;go_ret;exact⟨rfl,hb⟩
set_option maxRecDepth 100000 in theorem apartTokens_nil (w : World) : Calls prog 45 #[.slice none 0 0] w fun e w' => e = .returned (.bool true) ∧ Below w.heap.size w w' := by
 go_enter func45,ntmps45
 go_wp2_with fail;go_loopw [3] (fun v wr=>v=.int .i64 0∧Below w.heap.size w wr) (fun _ _=>0)
 case atStart=>exact⟨rfl,Below.refl _ _⟩
 case round=>
  obtain⟨rfl,hb⟩:=hrel;go_wp2_with fail;go_loopw [5,6] (fun u v wr=>u=.slice none 0 0∧v=.int .i64 0∧Below w.heap.size w wr) (fun _ _ _=>0)
  case atStart=>exact⟨rfl,rfl,hb⟩
  case round=>
   clear hb;obtain⟨rfl,rfl,hb⟩:=hrel;go_wp2_with fail;go_loopw [9] (fun v wr=>v=.int .i64 0∧Below w.heap.size w wr) (fun _ _=>0)
   case atStart=>exact⟨rfl,hb⟩
   case round=>
    clear hb;obtain⟨rfl,hb⟩:=hrel;go_wp2_with fail;go_ret;exact⟨rfl,hb⟩
set_option maxRecDepth 100000 in theorem apartInstrs_nil (w : World) : Calls prog 47 #[.slice none 0 0] w fun e w' => e = .returned (.bool true) ∧ Below w.heap.size w w' := by
 go_enter func47,ntmps47
 go_wp2_with fail;go_loopw [3] (fun v wr=>v=.int .i64 0∧Below w.heap.size w wr) (fun _ _=>0)
 case atStart=>exact⟨rfl,Below.refl _ _⟩
 case round=>
  obtain⟨rfl,hb⟩:=hrel;go_wp2_with fail;go_loopw [5,6] (fun u v wr=>u=.slice none 0 0∧v=.int .i64 0∧Below w.heap.size w wr) (fun _ _ _=>0)
  case atStart=>exact⟨rfl,rfl,hb⟩
  case round=>
   clear hb;obtain⟨rfl,rfl,hb⟩:=hrel;go_wp2_with fail;go_loopw [9] (fun v wr=>v=.int .i64 0∧Below w.heap.size w wr) (fun _ _=>0)
   case atStart=>exact⟨rfl,hb⟩
   case round=>
    clear hb;obtain⟨rfl,hb⟩:=hrel;go_wp2_with fail;go_ret;exact⟨rfl,hb⟩
set_option maxRecDepth 100000 in theorem apartRules_nil (w : World) : Calls prog 48 #[.slice none 0 0] w fun e w' => e = .returned (.bool true) ∧ Below w.heap.size w w' := by
 go_enter func48,ntmps48
 go_wp2_with fail;go_loopw [3] (fun v wr=>v=.int .i64 0∧Below w.heap.size w wr) (fun _ _=>0)
 case atStart=>exact⟨rfl,Below.refl _ _⟩
 case round=>
  obtain⟨rfl,hb⟩:=hrel;go_wp2_with fail;go_loopw [5,6] (fun u v wr=>u=.slice none 0 0∧v=.int .i64 0∧Below w.heap.size w wr) (fun _ _ _=>0)
  case atStart=>exact⟨rfl,rfl,hb⟩
  case round=>
   clear hb;obtain⟨rfl,rfl,hb⟩:=hrel;go_wp2_with fail;go_loopw [9] (fun v wr=>v=.int .i64 0∧Below w.heap.size w wr) (fun _ _=>0)
   case atStart=>exact⟨rfl,hb⟩
   case round=>
    clear hb;obtain⟨rfl,hb⟩:=hrel;go_wp2_with fail;go_ret;exact⟨rfl,hb⟩
set_option maxRecDepth 100000 in theorem apartValues_nil (w : World) : Calls prog 49 #[.slice none 0 0] w fun e w' => e = .returned (.bool true) ∧ Below w.heap.size w w' := by
 go_enter func49,ntmps49
 go_wp2_with fail;go_loopw [3] (fun v wr=>v=.int .i64 0∧Below w.heap.size w wr) (fun _ _=>0)
 case atStart=>exact⟨rfl,Below.refl _ _⟩
 case round=>
  obtain⟨rfl,hb⟩:=hrel;go_wp2_with fail;go_loopw [5,6] (fun u v wr=>u=.slice none 0 0∧v=.int .i64 0∧Below w.heap.size w wr) (fun _ _ _=>0)
  case atStart=>exact⟨rfl,rfl,hb⟩
  case round=>
   clear hb;obtain⟨rfl,rfl,hb⟩:=hrel;go_wp2_with fail;go_loopw [9] (fun v wr=>v=.int .i64 0∧Below w.heap.size w wr) (fun _ _=>0)
   case atStart=>exact⟨rfl,hb⟩
   case round=>
    clear hb;obtain⟨rfl,hb⟩:=hrel;go_wp2_with fail;go_ret;exact⟨rfl,hb⟩
set_option maxRecDepth 100000 in theorem apartMessages_nil (w : World) : Calls prog 52 #[.slice none 0 0] w fun e w' => e = .returned (.bool true) ∧ Below w.heap.size w w' := by
 go_enter func52,ntmps52
 go_wp2_with fail;go_loopw [3] (fun v wr=>v=.int .i64 0∧Below w.heap.size w wr) (fun _ _=>0)
 case atStart=>exact⟨rfl,Below.refl _ _⟩
 case round=>
  obtain⟨rfl,hb⟩:=hrel;go_wp2_with fail;go_loopw [5,6] (fun u v wr=>u=.slice none 0 0∧v=.int .i64 0∧Below w.heap.size w wr) (fun _ _ _=>0)
  case atStart=>exact⟨rfl,rfl,hb⟩
  case round=>
   clear hb;obtain⟨rfl,rfl,hb⟩:=hrel;go_wp2_with fail;go_loopw [10] (fun v wr=>v=.int .i64 0∧Below w.heap.size w wr) (fun _ _=>0)
   case atStart=>exact⟨rfl,hb⟩
   case round=>
    clear hb;obtain⟨rfl,hb⟩:=hrel;go_wp2_with fail;go_ret;exact⟨rfl,hb⟩
set_option maxRecDepth 100000 in theorem apartTables_nil (w : World) : Calls prog 53 #[.slice none 0 0] w fun e w' => e = .returned (.bool true) ∧ Below w.heap.size w w' := by
 go_enter func53,ntmps53
 go_wp2_with fail;go_loopw [3] (fun v wr=>v=.int .i64 0∧Below w.heap.size w wr) (fun _ _=>0)
 case atStart=>exact⟨rfl,Below.refl _ _⟩
 case round=>
  obtain⟨rfl,hb⟩:=hrel;go_wp2_with fail;go_loopw [5,6] (fun u v wr=>u=.slice none 0 0∧v=.int .i64 0∧Below w.heap.size w wr) (fun _ _ _=>0)
  case atStart=>exact⟨rfl,rfl,hb⟩
  case round=>
   clear hb;obtain⟨rfl,rfl,hb⟩:=hrel;go_wp2_with fail;go_loopw [10] (fun v wr=>v=.int .i64 0∧Below w.heap.size w wr) (fun _ _=>0)
   case atStart=>exact⟨rfl,hb⟩
   case round=>
    clear hb;obtain⟨rfl,hb⟩:=hrel;go_wp2_with fail;go_ret;exact⟨rfl,hb⟩
set_option maxRecDepth 100000 in theorem apartFrames_nil (w : World) : Calls prog 54 #[.slice none 0 0] w fun e w' => e = .returned (.bool true) ∧ Below w.heap.size w w' := by
 go_enter func54,ntmps54
 go_wp2_with fail;go_loopw [3] (fun v wr=>v=.int .i64 0∧Below w.heap.size w wr) (fun _ _=>0)
 case atStart=>exact⟨rfl,Below.refl _ _⟩
 case round=>
  obtain⟨rfl,hb⟩:=hrel;go_wp2_with fail;go_loopw [5,6] (fun u v wr=>u=.slice none 0 0∧v=.int .i64 0∧Below w.heap.size w wr) (fun _ _ _=>0)
  case atStart=>exact⟨rfl,rfl,hb⟩
  case round=>
   clear hb;obtain⟨rfl,rfl,hb⟩:=hrel;go_wp2_with fail;go_loopw [10] (fun v wr=>v=.int .i64 0∧Below w.heap.size w wr) (fun _ _=>0)
   case atStart=>exact⟨rfl,hb⟩
   case round=>
    clear hb;obtain⟨rfl,hb⟩:=hrel;go_wp2_with fail;go_ret;exact⟨rfl,hb⟩
set_option maxRecDepth 100000 in theorem apartLines_nil (w : World) : Calls prog 55 #[.slice none 0 0] w fun e w' => e = .returned (.bool true) ∧ Below w.heap.size w w' := by
 go_enter func55,ntmps55
 go_wp2_with fail;go_loopw [3] (fun v wr=>v=.int .i64 0∧Below w.heap.size w wr) (fun _ _=>0)
 case atStart=>exact⟨rfl,Below.refl _ _⟩
 case round=>
  obtain⟨rfl,hb⟩:=hrel;go_wp2_with fail;go_loopw [5,6] (fun u v wr=>u=.slice none 0 0∧v=.int .i64 0∧Below w.heap.size w wr) (fun _ _ _=>0)
  case atStart=>exact⟨rfl,rfl,hb⟩
  case round=>
   clear hb;obtain⟨rfl,rfl,hb⟩:=hrel;go_wp2_with fail;go_loopw [10] (fun v wr=>v=.int .i64 0∧Below w.heap.size w wr) (fun _ _=>0)
   case atStart=>exact⟨rfl,hb⟩
   case round=>
    clear hb;obtain⟨rfl,hb⟩:=hrel;go_wp2_with fail;go_ret;exact⟨rfl,hb⟩
set_option maxRecDepth 100000 in theorem apartBools_nil (w : World) : Calls prog 50 #[.slice none 0 0] w fun e w' => e = .returned (.bool true) ∧ Below w.heap.size w w' := by
 go_enter func50,ntmps50
 go_wp2_with fail;go_loopw [3,4] (fun u v wr=>u=.slice none 0 0∧v=.int .i64 0∧Below w.heap.size w wr) (fun _ _ _=>0)
 case atStart=>exact⟨rfl,rfl,Below.refl _ _⟩
 case round=>
  obtain⟨rfl,rfl,hb⟩:=hrel;go_wp2_with fail;go_loopw [7] (fun v wr=>v=.int .i64 0∧Below w.heap.size w wr) (fun _ _=>0)
  case atStart=>exact⟨rfl,hb⟩
  case round=>
   clear hb;obtain⟨rfl,hb⟩:=hrel;go_wp2_with fail;go_ret;exact⟨rfl,hb⟩
theorem bd176 (a i:Nat) (h:(a+64)*176≤140737488355328) (hi:i < 64):(a+i+1)*176≤140737488355328:=Nat.le_trans (Nat.mul_le_mul_right 176 (show a+i+1≤a+64 by omega)) h
def sgZ (k i:Nat):Int:=-1000000*((k:Int)+1) - (i:Int)
theorem sg_len (a:Nat) (h:(a+64)*176≤140737488355328):a≤140737488355328:=by omega
theorem sg_wrap1 (k:Nat) (h:k≤100000):IntKind.i64.wrap (-1000000*((k:Int)+1)) = -1000000*((k:Int)+1):=IntWalk.i64_in _ (by omega)
theorem sg_wrap2 (k i a:Nat) (h:k≤100000) (ha:(a+64)*176≤140737488355328) (hi:i≤a+64):IntKind.i64.wrap (-1000000*((k:Int)+1) - (i:Int))=sgZ k i:=by
 have:=sg_len a ha;exact IntWalk.i64_in _ (by omega)
theorem sg_wrap3 (k i a:Nat) (h:k≤100000) (ha:(a+64)*176≤140737488355328) (hi:i≤64):IntKind.i64.wrap (-1000000*((k:Int)+1) - ((a:Int)+(i:Int)))=sgZ k (a+i):=by
 have:=sg_wrap2 k (a+i) a h ha (by omega);rw[← this]
 congr 2
def sgMarkZ (z:Int):Array Value:=#[.int .i64 0,.int .i64 0,.string ⟨#[]⟩,.int .i64 0,.int .u64 0,.int .i64 z,.int .i64 0,.bool false,.bool false,.int .i64 0,.int .i64 0,.int .i64 0,.int .i64 0,.int .i64 0,.int .i64 0,.int .i64 0,.int .i64 0,.string ⟨#[]⟩,.slice none 0 0]
def mkSg (k i:Nat):Row 19:=⟨(sgMarkZ (sgZ k i)).toList,rfl⟩
theorem sgMark_one (z:Int):(sgMarkZ z).all (·.oneCell')=true:=by unfold sgMarkZ;simp[Value.oneCell']
theorem setRow_cells (g:Nat):∀ (vs:List Value) (o:Nat) (w:World),setRow w g o vs=w.setCells g o vs
 | [],o,w=>rfl
 | v::vs,o,w=>by rw[setRow,World.setCells];exact setRow_cells g vs (o+1) _
theorem wpList_storeM {P:Program} {ops:Array Oper} {rest:List Oper} {o:Oper} {a:Act} {w:World} {Q:Exit→Act→World→Prop} {g off:Nat} {cs:Array Value} (ht:w.there g off cs.size) (ty:TypeId) (x y:Operand)
  (hi:(P.info? ty).map (·.size)=some cs.size) (h1:cs.all (·.oneCell')=true) (h:wpList P ops Q rest (a.put o.dst undef) (w.setCells g off cs.toList))
  (hgd:o.guard=none:=by rfl) (ho:o.op=.store ty x y:=by rfl) (hx:a.eval x=.pointer (some ⟨g,off,none⟩):=by rfl) (hy:a.eval y=.agg cs:=by rfl):wpList P ops Q (o::rest) a w:=
 wpList_store_mid hgd ty x y ho g off cs hx hy ht hi h1 h
theorem sg_at {w:World} {a:Option Addr} {cap:Nat} {l:List (Row 19)} (h:SlOf w Row.en 19 a cap l) {k:Nat} (hk:k < l.length) :
  ∃ b o,a=some ⟨b,o,none⟩∧b < w.heap.size∧w.cell? ⟨b,o+k*19+5,none⟩=(Row.en l[k])[5]?:=by
 obtain⟨b,o,rfl,hb,hc⟩:=SlOf.cells h Row.en_len (by decide) hk;exact⟨b,o,rfl,hb,by rw[Nat.add_assoc];exact hc 5 (by decide)⟩
set_option maxRecDepth 100000 in theorem apartSignals_any (base m : Nat) (vs : Nat → Value) (xs : Nat → List (Row 19)) (al : Option Addr) (cl : Nat) (w : World) (hm : m ≤ 100000) (hB : base ≤ w.heap.size)
  (ho:∀ j,j < m→Owns w base 82 19 Row.en (vs j) (xs j)) (hap:∀ i j,i < m→j < m→i≠j→Apart (vs i) (vs j))
  (hls:Owns w base 75 1 enV (.slice al m cl) ((List.range m).map vs)) (hr:∀ j,j < m→((xs j).length+64)*176≤140737488355328) :
  Calls prog 51 #[.slice al m cl] w fun e w'=>e=.returned (.bool true)∧Below base w w'∧Kin 82 75 w w':=by
 have hne:82≠75:=(by decide);obtain⟨n,hn⟩:∃ n:Nat→Nat,∀ j,n j=(xs j).length:=⟨fun j=>(xs j).length,fun _=>rfl⟩
 have ha0:ApA Row.en 19 82 75 base m vs (.slice al m cl) w xs w:=⟨Below.refl _ _,ho,hls,Kin.refl _ _ _⟩
 have hp0:Ph1 m mkSg n 0 0 xs:=Ph1.start fun j _=>(hn j).symm
 have hr':∀ j,j < m→(n j+64)*176≤140737488355328:=fun j hj=>by rw[hn];exact hr j hj
 clear ho hls hr hn;go_enter func51,ntmps51
 go_wp2_with fail;go_loopw [3] (fun v wr=>∃ k X,k≤m∧v=.int .i64 (k:Nat)∧ApA Row.en 19 82 75 base m vs (.slice al m cl) w X wr∧Ph1 m mkSg n k 0 X) (fun v _=>m - (intOf v).toNat)
 case atStart=>exact⟨0,xs,Nat.zero_le _,rfl,ha0,hp0⟩
 case round=>
  clear ha0 hp0;obtain⟨k,X,hk,rfl,ha,hp⟩:=hrel;by_cases hlt:k < m
  ·go_wp2_with fail;obtain⟨bl,ol,rfl,hbl0,hcl0⟩:=SlOf.cell1 ha.ls.sl.2 id (fun _=>rfl) (k:=k) (by simpa using hlt);go_loopw [4] (fun v wr=>∃ i X,i≤n k∧v=.int .i64 (i:Nat)∧ApA Row.en 19 82 75 base m vs (.slice (some ⟨bl,ol,none⟩) m cl) w X wr∧Ph1 m mkSg n k i X) (fun v _=>n k - (intOf v).toNat)
   case atStart=>exact⟨0,X,Nat.zero_le _,rfl,ha,hp⟩
   case round=>
    clear ha hp hcl0 hbl0 X;obtain⟨i,X,hi,rfl,ha,hp⟩:=hrel;obtain⟨bl',ol',hbo,hbl,hcl⟩:=SlOf.cell1 ha.ls.sl.2 id (fun _=>rfl) (k:=k) (by simpa using hlt);cases hbo
    rw[range_map_get]at hcl;simp only[id]at hcl;obtain⟨av,cv,hv,hsv⟩:=(ha.own k hlt).shape;rw[hp.len k hlt]at hv;have hln:=hsv.len;rw[hp.len k hlt]at hln;rw[hv]at hcl;by_cases hil:i < n k
    ·obtain⟨g,cv',hv',hbg,hgs,_,_⟩:=(ha.own k hlt).block (by rw[hp.len k hlt];omega);rw[hp.len k hlt]at hv';rw[hv]at hv';cases hv'
     have hst:∀ (W:World),(ApA Row.en 19 82 75 base m vs (.slice (some ⟨bl,ol,none⟩) m cl) w X W∨ApA Row.en 19 82 75 base m vs (.slice (some ⟨bl,ol,none⟩) m cl) w (fun j=>if j=k then (X k).set i (mkSg k i) else X j) W)→ApA Row.en 19 82 75 base m vs (.slice (some ⟨bl,ol,none⟩) m cl) w (fun j=>if j=k then (X k).set i (mkSg k i) else X j) (setRow W g (i*19) (Row.en (mkSg k i))):=by
      intro W hW;rcases hW with h|h
      ·exact h.store hap hne Row.en_len hlt hv (by rw[hp.len k hlt];exact hil) _
      ·have:=h.store hap hne Row.en_len hlt hv (i:=i) (by simp only[if_true];rw[List.length_set,hp.len k hlt];exact hil) (mkSg k i);rw[Ph1.again]at this;exact this
     have hpn:=hp.next hlt hil;obtain⟨X',hX'⟩:∃ X',X' = (fun j=>if j=k then (X k).set i (mkSg k i) else X j):=⟨_,rfl⟩
     rw[← hX']at hst hpn;have hthere:wr.there g (i*19) 19:=fun j hj=>by
      have hfr:=ha.own k hlt;rw[hv]at hfr;obtain⟨u,hu⟩:=ha.room Row.en_len hlt hv (by rw[hp.len k hlt];exact hil) (j:=j) hj;exact⟨by rw[hu];rfl,hfr.free _⟩
     have hnew:=hst wr (.inl ha);rw[setRow_cells]at hnew;obtain⟨Z,hZ⟩:∃ Z,Z=sgZ k i:=⟨_,rfl⟩
     obtain⟨D,hD⟩:∃ D,D=sgMarkZ Z:=⟨_,rfl⟩
     have hDl:(mkSg k i).en=D.toList:=(by rw[hD,hZ];rfl);rw[hDl]at hnew;have hD1:D.all (·.oneCell')=true:=(by rw[hD];exact sgMark_one Z);have hDs:D.size=19:=(by rw[hD];rfl);replace hthere:wr.there g (i*19) D.size:=(by rw[hDs];exact hthere);have HD:=Qh hD;have HNEW:=Qh hnew;have HTH:=Qh hthere;obtain⟨W2,hW2⟩:∃ W2,W2=wr.setCells g (i*19) D.toList:=⟨_,rfl⟩
     have hln2:n k≤140737488355328:=(by have:=hr' k hlt;omega);have hw1:IntKind.i64.wrap (-1000000*((k:Int)+1)) = -1000000*((k:Int)+1):=IntWalk.i64_in _ (by omega);have hw2:IntKind.i64.wrap (-1000000*((k:Int)+1) - (i:Int))=Z:=(by rw[hZ];exact IntWalk.i64_in _ (by omega));have hsz:(prog.info? 82).map (·.size)=some D.size:=(by rw[hDs];exact sig_size);have HW2:=Qh hW2;clear hnew hst hthere hDl hD hDs hW2 hsv hZ;go_wp2_with (refine wpList_storeM (cs:=D) HTH.out 82 (.tmp 39) (.tmp 38) hsz hD1 ?_ (hy:=by rw[HD.out];rfl);rw[← HW2.out])
     have hnew:=HNEW.out;rw[← HW2.out]at hnew;clear HNEW HTH HW2;go_wp2_with fail;go_roundw;case rel=>exact⟨i+1,X',by omega,by go_num,hnew,hpn⟩
     case measure=>simp[intOf];omega
    ·obtain rfl:i=n k:=by omega
     have hp2:=hp.row hlt;go_wp2_with fail;go_roundw;case rel=>exact⟨k+1,X,by omega,by go_num,ha,hp2⟩
     case measure=>simp[intOf];omega
  ·have hkm:Hid (k=m):=Qh (by omega);have hb0:=ApB.start ha (hkm.out ▸ hp) vs;clear ha hp;obtain⟨kq,hkq⟩:∃ x,x=k:=⟨_,rfl⟩
   subst hkq;go_wp2_with fail;go_loopw [5,6] (fun gsv v wr=>∃ k G,k≤m∧v=.int .i64 (k:Nat)∧ApB Row.en 19 82 75 base m vs (.slice al m cl) w mkSg n k G gsv wr) (fun _ v _=>m - (intOf v).toNat)
   case atStart=>exact⟨0,vs,Nat.zero_le _,rfl,hb0⟩
   case round=>
    clear hb0 hkm hlt hk X;obtain⟨k,G,hk,rfl,hb⟩:=hrel;have hshg:=hb.gs.shape;rw[List.length_map,List.length_range]at hshg;obtain⟨ag,cg,rfl,hsg⟩:=hshg;by_cases hlt:k < m
    ·have hc0:=hb.enter hap hlt;obtain⟨bl,ol,rfl,hbl0,hcl0⟩:=SlOf.cell1 hb.a.ls.sl.2 id (fun _=>rfl) (k:=k) (by simpa using hlt);have hcl:=hb.a.lsCell hlt;clear hb hbl0 hcl0;go_wp2_with fail;go_loopw [7,8,9] (fun gv v v9 wr=>∃ i:Nat,i≤64∧v=.int .i64 (i:Nat)∧ApC Row.en 19 82 75 base m vs (.slice (some ⟨bl,ol,none⟩) m cl) w mkSg n k G (.slice ag k cg) gv i wr) (fun _ v _ _=>64 - (intOf v).toNat)
     case atStart=>exact⟨0,Nat.zero_le _,rfl,hc0⟩
     case round=>
      clear hc0 hcl;obtain⟨i,hi,rfl,hc⟩:=hrel;have hshc:=hc.cur.shape;rw[marksOf_len]at hshc;obtain⟨ac,cc,rfl,hsc⟩:=hshc;by_cases hil:i < 64
      ·have hcl:=hc.a.lsCell hlt;obtain⟨av,cv,hv,hsv⟩:=(hc.a.own k hlt).shape;rw[marksOf_len]at hv;have hln:=hsv.len;rw[marksOf_len]at hln;rw[hv]at hcl;clear hv;go_upto_region 16 with fail
       have hc1:=hc;obtain⟨Z,hZ⟩:∃ Z,Z=sgZ k (n k+i):=⟨_,rfl⟩
       have hnk:=sg_len _ (hr' k hlt);have HW1:=Qh (sg_wrap1 k (Nat.le_trans (Nat.le_of_lt hlt) hm));have HW2:=Qh (show IntKind.i64.wrap (-1000000*((k:Int)+1) - ((n k:Int)+(i:Int)))=Z by rw[hZ];exact sg_wrap3 k i (n k) (Nat.le_trans (Nat.le_of_lt hlt) hm) (hr' k hlt) (Nat.le_of_lt hil));have HBD:=Qh (bd176 (n k) i (hr' k hlt) hil);obtain⟨Y,hY⟩:∃ Y,Y=mkSg k (n k+i):=⟨_,rfl⟩
       have HY:=Qh (show Y.en=(sgMarkZ Z).toList by rw[hY,hZ];rfl);have HYE:=Qh hY;have HY1:Hid (∀ u∈Y.en,u.oneCell' = true):=Qh fun u hu=>(Array.all_eq_true_iff_forall_mem.1 (sgMark_one Z)) u (Array.mem_toList_iff.1 (by rw[← HY.out];exact hu))
       obtain⟨D2,hD2⟩:∃ D2,D2=sgMarkZ Z:=⟨_,rfl⟩
       have HD2:=Qh hD2;clear hc hY hsv hsc hsg hD2 hZ;go_upto_region 17 with fail
       have hw1:=HW1.out;have hw2:=HW2.out;go_wp2_with (first|(refine Great.wpList_buildSliceTo rfl 75 82 1 #[(0,.tmp 67)] rfl wr.heap.size rfl (some 68) rfl underlying75 D2 (by rw[HD2.out];kernel_rfl) ?_)|(at_builtin;go_loud (refine wpList_append_elem4 sigs_ty (marksOf mkSg k (n k+i)) Y hc1.cur hc1.a.bel hB (by rw[marksOf_len];exact HBD.out) ?_ (hy:=by rw[HY.out,HD2.out]) (hlen:=Row.en_len _) (hone:=HY1.out))))
       intro v' w2 ho2 hb2 hg2 hv2 hgrew;clear hw1 hw2 HW1 HW2;rw[HYE.out]at ho2;have hc2:=hc1.step hne Row.en_len hlt ho2 hb2 hg2 hv2 hgrew;clear hc1 ho2 hb2 hg2 hv2 hgrew;go_wp2
       go_roundw;case rel=>exact⟨i+1,by omega,by go_num,hc2⟩
       case measure=>simp[intOf];omega
      ·obtain rfl:i=64:=by omega
       go_wp2_with (at_builtin;go_loud (refine wpList_append_elem3 sgl_ty ((List.range k).map G) (.slice ac (n k+64) cc) hc.gs hc.a.bel hB (by simp;omega) ?_ (hone:=by simp[enV,Value.oneCell'])))
       intro v' w2 ho2 hb2 hg2 hv2;have hb3:=hc.leave hne ho2 hb2 hg2 hv2;clear hc ho2 hb2 hg2 hv2 hsc;go_wp2
       go_roundw;case rel=>exact⟨k+1,_,by omega,by go_num,hb3⟩
       case measure=>simp[intOf];omega
    ·have hkm:m=k:=(by omega);subst hkm;clear hsg;go_wp2_with fail;go_loopw [10] (fun v wr=>∃ k:Nat,k≤m∧v=.int .i64 (k:Nat)∧ApB Row.en 19 82 75 base m vs (.slice al m cl) w mkSg n m G (.slice ag m cg) wr) (fun v _=>m - (intOf v).toNat)
     case atStart=>exact⟨0,Nat.zero_le _,rfl,hb⟩
     case round=>
      clear hb hlt hk;obtain⟨k,hk,rfl,hb⟩:=hrel;by_cases hlt:k < m
      ·go_wp2_with fail;obtain⟨bg,og,rfl,hcg⟩:=hb.gsCell' hlt;obtain⟨bl,ol,rfl,hcl⟩:=hb.a.lsCell' hlt;clear hcg hcl;go_loopw [11,12] (fun v v12 wr=>∃ i:Nat,i≤n k+64∧v=.int .i64 (i:Nat)∧ApB Row.en 19 82 75 base m vs (.slice (some ⟨bl,ol,none⟩) m cl) w mkSg n m G (.slice (some ⟨bg,og,none⟩) m cg) wr) (fun v _ _=>n k+64 - (intOf v).toNat)
       case atStart=>exact⟨0,Nat.zero_le _,rfl,hb⟩
       case round=>
        clear hb;obtain⟨i,hi,rfl,hb⟩:=hrel;obtain⟨ga,gc,hgv,hsg⟩:=(hb.gown k hlt).shape;rw[marksOf_len]at hgv;obtain⟨bg',og',e1,hcg⟩:=hb.gsCell' hlt;cases e1
        rw[hgv]at hcg;have hlg:=hsg.len;rw[marksOf_len]at hlg;by_cases hil:i < n k+64
        ·obtain⟨bq,oq,rfl,hbq,hg0⟩:=sg_at hsg (k:=i) (by rw[marksOf_len];exact hil);rw[marksOf_get]at hg0;have HG0:=Qh (show wr.cell? ⟨bq,oq+i*19+5,none⟩=some (.int .i64 (sgZ k i))from hg0);clear hg0;obtain⟨bl',ol',e1,hcl⟩:=hb.a.lsCell' hlt;cases e1
         obtain⟨av,cv,hv,hsv⟩:=(hb.a.own k hlt).shape;rw[marksOf_len]at hv;rw[hv]at hcl;have hlv:=hsv.len;rw[marksOf_len]at hlv;go_upto_region 25 with fail
         obtain⟨Z,hZ⟩:∃ Z,Z=sgZ k i:=⟨_,rfl⟩
         have hg0:wr.cell? ⟨bq,oq+i*19+5,none⟩=some (.int .i64 Z):=(by rw[hZ];exact HG0.out);clear HG0;have HW1:=Qh (sg_wrap1 k (Nat.le_trans (Nat.le_of_lt hlt) hm));have HW2:=Qh (show IntKind.i64.wrap (-1000000*((k:Int)+1) - (i:Int))=Z by rw[hZ];exact sg_wrap2 k i (n k) (Nat.le_trans (Nat.le_of_lt hlt) hm) (hr' k hlt) (Nat.le_of_lt hil));have HZ:=Qh hZ;clear hZ;by_cases hin:(i:Int) < n k
         ·obtain⟨bv,ov,rfl,hbv,hl0⟩:=sg_at hsv (k:=i) (by rw[marksOf_len];omega);rw[marksOf_get]at hl0;replace hl0:wr.cell? ⟨bv,ov+i*19+5,none⟩=some (.int .i64 Z):=(by rw[HZ.out];exact hl0);clear hsg hsv hgv hv;have hbne:(Z != Z)=false:=(by simp);have hw1:=HW1.out;have hw2:=HW2.out;go_upto_region 26 with fail
          clear hw1 hw2 HW1 HW2;go_wp2_with fail;go_roundw;case rel=>exact⟨i+1,by omega,by go_num,hb⟩
          case measure=>simp[intOf];omega
         ·have hdec:decide (i < n k)=false:=decide_eq_false (by omega);have hbne:(Z != Z)=false:=(by simp);clear hsg hsv hgv hv;have hw1:=HW1.out;have hw2:=HW2.out;go_upto_region 26 with fail
          clear hw1 hw2 HW1 HW2;go_wp2_with fail;go_roundw;case rel=>exact⟨i+1,by omega,by go_num,hb⟩
          case measure=>simp[intOf];omega
        ·obtain rfl:i=n k+64:=by omega
         go_wp2_with fail;go_roundw;case rel=>exact⟨k+1,by omega,by go_num,hb⟩
         case measure=>simp[intOf];omega
      ·go_wp2_with fail;go_ret;exact⟨rfl,hb.a.bel,hb.a.kin⟩
theorem Owns.kin {α:Type} {w w':World} {base size:Nat} {e' e e2:TypeId} {en:α→List Value} {v:Value} {xs:List α} (h:Owns w base e' size en v xs) (he:e'≠e) (he2:e'≠e2) (hk:Kin e e2 w w'):Owns w' base e' size en v xs:=
 h.ofBlock fun k hk'=>by
  obtain⟨c,fz,h3⟩:=Lib.ownsRow_kind h k hk';exact hk k c e' fz h3 he he2
def vsOf {α:Type} (l:List ((Value×List α)×Nat×Nat)) (j:Nat):Value:=((l[j]?).map (·.1.1)).getD undef
def xsOf {α:Type} (l:List ((Value×List α)×Nat×Nat)) (j:Nat):List α:=((l[j]?).map (·.1.2)).getD []
theorem vsOf_map {α:Type} (l:List ((Value×List α)×Nat×Nat)):l.map (·.1.1)=(List.range l.length).map (vsOf l):=by
 refine List.ext_getElem (by simp) fun i h1 h2=>?_
 rw[List.length_map]at h1;simp[vsOf,h1]
structure Lots {α:Type} (w:World) (base:Nat) (e:TypeId) (size:Nat) (en:α→List Value) (l:List ((Value×List α)×Nat×Nat)):Prop where
 own:∀ j,j < l.length→Owns w base e size en (vsOf l j) (xsOf l j)
 ap:∀ i j,i < l.length→j < l.length→i≠j→Apart (vsOf l i) (vsOf l j)
theorem Lots.keep {α:Type} {w w':World} {base:Nat} {e:TypeId} {size:Nat} {en:α→List Value} {l:List ((Value×List α)×Nat×Nat)} (h:Lots w base e size en l) (hb:Below w.heap.size w w'):Lots w' base e size en l:=
 ⟨fun j hj=>(h.own j hj).keep hb lrf,h.ap⟩
theorem Lots.kin {α:Type} {w w':World} {base:Nat} {e' e e2:TypeId} {size:Nat} {en:α→List Value} {l:List ((Value×List α)×Nat×Nat)} (h:Lots w base e' size en l) (he:e'≠e) (he2:e'≠e2) (hk:Kin e e2 w w'):Lots w' base e' size en l:=
 ⟨fun j hj=>(h.own j hj).kin he he2 hk,h.ap⟩
set_option maxRecDepth 100000 in theorem bapart_any (w0 : World) (kb base : Nat) (hB : base ≤ w0.heap.size) (TX : List ((Value × List (List UInt8)) × Nat × Nat)) (RW : List ((Value × List (Int × List UInt8)) × Nat × Nat)) (SG : List ((Value × List (Row 19)) × Nat × Nat))
  (nt:TX.length≤100000) (nr:RW.length≤1000000) (ns:SG.length≤100000) (bt:∀ j,j < TX.length→(xsOf TX j).length≤4000001) (br:∀ j,j < RW.length→(xsOf RW j).length≤256) (bs:∀ j,j < SG.length→(xsOf SG j).length≤64)
  (w:World) (h:BookAt w0 w kb (TX.map (·.1.1)) (RW.map (·.1.1)) (SG.map (·.1.1))) (lt:Lots w base 9 1 enTx TX) (lr:Lots w base 178 2 enRw RW) (ls:Lots w base 82 19 Row.en SG) :
  Calls prog 11 #[.pointer (some ⟨kb,0,none⟩)] w fun e w'=>e=.returned (.bool true)∧Below base w w':=by
 obtain⟨⟨u,v,z,hc,ht,hr,hs⟩,ho,-⟩:=h;have hsz:base≤w.heap.size:=Nat.le_trans hB ho.size;rw[vsOf_map]at ht hr hs;replace ht:=ht.fromBase hB;replace hr:=hr.fromBase hB;replace hs:=hs.fromBase hB;obtain⟨ta,tc,eu,-⟩:=ht.shape;obtain⟨ra,rc,ev,-⟩:=hr.shape;obtain⟨sa,sc,ez,-⟩:=hs.shape;rw[List.length_map,List.length_range]at eu ev ez;subst eu ev ez;have HT:=Qh ht;have HR:=Qh hr;have HS:=Qh hs;have LT:=Qh lt;have LR:=Qh lr;have LS:=Qh ls;have HC:=Qh hc;have HB:=Qh (Below.refl base w);clear ht hr hs lt lr ls hc ho;have c1:=fun W (hW:base≤W.heap.size) (h1:Owns W base 31 1 enV (.slice ta TX.length tc) ((List.range TX.length).map (vsOf TX))) (h2:Lots W base 9 1 enTx TX)=>apartTexts_any base TX.length (vsOf TX) (xsOf TX) ta tc W nt hW h2.own h2.ap h1 (fun j hj=>by have:=bt j hj;omega)
 have c5:=fun W (hW:base≤W.heap.size) (h1:Owns W base 109 1 enV (.slice ra RW.length rc) ((List.range RW.length).map (vsOf RW))) (h2:Lots W base 178 2 enRw RW)=>apartRows_any base RW.length (vsOf RW) (xsOf RW) ra rc W nr hW h2.own h2.ap h1 (fun j hj=>by have:=br j hj;omega)
 have c10:=fun W (hW:base≤W.heap.size) (h1:Owns W base 75 1 enV (.slice sa SG.length sc) ((List.range SG.length).map (vsOf SG))) (h2:Lots W base 82 19 Row.en SG)=>apartSignals_any base SG.length (vsOf SG) (xsOf SG) sa sc W ns hW h2.own h2.ap h1 (fun j hj=>by have:=bs j hj;omega)
 clear bt br bs nt nr ns;go_enter func11,ntmps11
 have f:=Blk.cell ⟨_,HC.out⟩ 0 (.slice none 0 0) rfl;go_wp2_with fail;with_reducible refine(apartBytes_nil _).mono ?_
 rintro e w1 ⟨rfl,hb⟩;replace HR:=Qh (HR.out.keep hb lrf);replace LR:=Qh (LR.out.keep hb);replace HS:=Qh (HS.out.keep hb lrf);replace LS:=Qh (LS.out.keep hb);replace HT:=Qh (HT.out.keep hb lrf);replace LT:=Qh (LT.out.keep hb);replace HC:=Qh (kind_at HC.out hb);replace HB:=Qh (HB.out.trans (hb.mono (Nat.le_trans hsz HB.out.size)));clear hb f;have f:=Blk.cell ⟨_,HC.out⟩ 1 (.slice ta TX.length tc) rfl;go_wp2_with fail;with_reducible refine(c1 _ (Nat.le_trans hsz HB.out.size) HT.out LT.out).mono ?_
 rintro e w2 ⟨rfl,hb,hk⟩;replace HR:=Qh (HR.out.kin (by decide) (by decide) hk);replace LR:=Qh (LR.out.kin (by decide) (by decide) hk);replace HS:=Qh (HS.out.kin (by decide) (by decide) hk);replace LS:=Qh (LS.out.kin (by decide) (by decide) hk);replace HC:=Qh ((hk kb _ _ _ HC.out (by decide) (by decide)).trans HC.out);replace HB:=Qh (HB.out.trans hb);clear hb hk f c1 HT LT;have f:=Blk.cell ⟨_,HC.out⟩ 2 (.slice none 0 0) rfl;go_wp2_with fail;with_reducible refine(apartInts_nil _).mono ?_
 rintro e w3 ⟨rfl,hb⟩;replace HR:=Qh (HR.out.keep hb lrf);replace LR:=Qh (LR.out.keep hb);replace HS:=Qh (HS.out.keep hb lrf);replace LS:=Qh (LS.out.keep hb);replace HC:=Qh (kind_at HC.out hb);replace HB:=Qh (HB.out.trans (hb.mono (Nat.le_trans hsz HB.out.size)));clear hb f;have f:=Blk.cell ⟨_,HC.out⟩ 3 (.slice none 0 0) rfl;go_wp2_with fail;with_reducible refine(apartNumbers_nil _).mono ?_
 rintro e w4 ⟨rfl,hb⟩;replace HR:=Qh (HR.out.keep hb lrf);replace LR:=Qh (LR.out.keep hb);replace HS:=Qh (HS.out.keep hb lrf);replace LS:=Qh (LS.out.keep hb);replace HC:=Qh (kind_at HC.out hb);replace HB:=Qh (HB.out.trans (hb.mono (Nat.le_trans hsz HB.out.size)));clear hb f;have f:=Blk.cell ⟨_,HC.out⟩ 4 (.slice none 0 0) rfl;go_wp2_with fail;with_reducible refine(apartTokens_nil _).mono ?_
 rintro e w5 ⟨rfl,hb⟩;replace HR:=Qh (HR.out.keep hb lrf);replace LR:=Qh (LR.out.keep hb);replace HS:=Qh (HS.out.keep hb lrf);replace LS:=Qh (LS.out.keep hb);replace HC:=Qh (kind_at HC.out hb);replace HB:=Qh (HB.out.trans (hb.mono (Nat.le_trans hsz HB.out.size)));clear hb f;have f:=Blk.cell ⟨_,HC.out⟩ 5 (.slice ra RW.length rc) rfl;go_wp2_with fail;with_reducible refine(c5 _ (Nat.le_trans hsz HB.out.size) HR.out LR.out).mono ?_
 rintro e w6 ⟨rfl,hb,hk⟩;replace HS:=Qh (HS.out.kin (by decide) (by decide) hk);replace LS:=Qh (LS.out.kin (by decide) (by decide) hk);replace HC:=Qh ((hk kb _ _ _ HC.out (by decide) (by decide)).trans HC.out);replace HB:=Qh (HB.out.trans hb);clear hb hk f c5 HR LR;have f:=Blk.cell ⟨_,HC.out⟩ 6 (.slice none 0 0) rfl;go_wp2_with fail;with_reducible refine(apartInstrs_nil _).mono ?_
 rintro e w7 ⟨rfl,hb⟩;replace HS:=Qh (HS.out.keep hb lrf);replace LS:=Qh (LS.out.keep hb);replace HC:=Qh (kind_at HC.out hb);replace HB:=Qh (HB.out.trans (hb.mono (Nat.le_trans hsz HB.out.size)));clear hb f;have f:=Blk.cell ⟨_,HC.out⟩ 7 (.slice none 0 0) rfl;go_wp2_with fail;with_reducible refine(apartRules_nil _).mono ?_
 rintro e w8 ⟨rfl,hb⟩;replace HS:=Qh (HS.out.keep hb lrf);replace LS:=Qh (LS.out.keep hb);replace HC:=Qh (kind_at HC.out hb);replace HB:=Qh (HB.out.trans (hb.mono (Nat.le_trans hsz HB.out.size)));clear hb f;have f:=Blk.cell ⟨_,HC.out⟩ 8 (.slice none 0 0) rfl;go_wp2_with fail;with_reducible refine(apartValues_nil _).mono ?_
 rintro e w9 ⟨rfl,hb⟩;replace HS:=Qh (HS.out.keep hb lrf);replace LS:=Qh (LS.out.keep hb);replace HC:=Qh (kind_at HC.out hb);replace HB:=Qh (HB.out.trans (hb.mono (Nat.le_trans hsz HB.out.size)));clear hb f;have f:=Blk.cell ⟨_,HC.out⟩ 9 (.slice none 0 0) rfl;go_wp2_with fail;with_reducible refine(apartBools_nil _).mono ?_
 rintro e w10 ⟨rfl,hb⟩;replace HS:=Qh (HS.out.keep hb lrf);replace LS:=Qh (LS.out.keep hb);replace HC:=Qh (kind_at HC.out hb);replace HB:=Qh (HB.out.trans (hb.mono (Nat.le_trans hsz HB.out.size)));clear hb f;have f:=Blk.cell ⟨_,HC.out⟩ 10 (.slice sa SG.length sc) rfl;go_wp2_with fail;with_reducible refine(c10 _ (Nat.le_trans hsz HB.out.size) HS.out LS.out).mono ?_
 rintro e w11 ⟨rfl,hb,hk⟩;replace HC:=Qh ((hk kb _ _ _ HC.out (by decide) (by decide)).trans HC.out);replace HB:=Qh (HB.out.trans hb);clear hb hk f c10 HS LS;have f:=Blk.cell ⟨_,HC.out⟩ 11 (.slice none 0 0) rfl;go_wp2_with fail;with_reducible refine(apartMessages_nil _).mono ?_
 rintro e w12 ⟨rfl,hb⟩;replace HC:=Qh (kind_at HC.out hb);replace HB:=Qh (HB.out.trans (hb.mono (Nat.le_trans hsz HB.out.size)));clear hb f;have f:=Blk.cell ⟨_,HC.out⟩ 12 (.slice none 0 0) rfl;go_wp2_with fail;with_reducible refine(apartTables_nil _).mono ?_
 rintro e w13 ⟨rfl,hb⟩;replace HC:=Qh (kind_at HC.out hb);replace HB:=Qh (HB.out.trans (hb.mono (Nat.le_trans hsz HB.out.size)));clear hb f;have f:=Blk.cell ⟨_,HC.out⟩ 13 (.slice none 0 0) rfl;go_wp2_with fail;with_reducible refine(apartFrames_nil _).mono ?_
 rintro e w14 ⟨rfl,hb⟩;replace HC:=Qh (kind_at HC.out hb);replace HB:=Qh (HB.out.trans (hb.mono (Nat.le_trans hsz HB.out.size)));clear hb f;have f:=Blk.cell ⟨_,HC.out⟩ 14 (.slice none 0 0) rfl;go_wp2_with fail;with_reducible refine(apartLines_nil _).mono ?_
 rintro e w15 ⟨rfl,hb⟩;replace HC:=Qh (kind_at HC.out hb);replace HB:=Qh (HB.out.trans (hb.mono (Nat.le_trans hsz HB.out.size)));clear hb f;go_wp2_with fail;go_ret;exact⟨rfl,HB.out⟩
end Go.Proofs.YtlacjhjckkablaaGreatDoor
