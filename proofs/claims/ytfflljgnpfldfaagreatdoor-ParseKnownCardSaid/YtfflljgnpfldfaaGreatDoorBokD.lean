/-
  The Book of a law: are all its lists apart? (Printed by gen_bokd.py.)
-/
import Derived.Great.Walk
import Derived.Test.YtfflljgnpfldfaaGreatDoorAptR
set_option linter.all false
set_option maxHeartbeats 128000000
set_option maxRecDepth 100000
namespace Go.Proofs.YtfflljgnpfldfaaGreatDoor
open Go.Proofs.Tryz
open Go.RowKit
theorem aiV (w:World):Calls prog 61 #[.slice none 0 0] w fun e w'=>e=.returned (.bool true)∧Below w.heap.size w w':=by
 go_enter func61,ntmps61
 go_wp2_with fail;go_loopw [3] (fun v wr=>v=.int .i64 0∧Below w.heap.size w wr) (fun _ _=>0)
 case atStart=>exact vz
 case round=>
  obtain⟨rfl,hb⟩:=hrel;go_wp2_with fail;go_loopw [5,6] (fun u v wr=>u=.slice none 0 0∧v=.int .i64 0∧Below w.heap.size w wr) (fun _ _ _=>0)
  case atStart=>exact xe
  case round=>
   clear hb;obtain⟨rfl,rfl,hb⟩:=hrel;go_wp2_with fail;go_loopw [9] (fun v wr=>v=.int .i64 0∧Below w.heap.size w wr) (fun _ _=>0)
   case atStart=>exact uy
   case round=>
    clear hb;exact vk
theorem aiW (w:World):Calls prog 63 #[.slice none 0 0] w fun e w'=>e=.returned (.bool true)∧Below w.heap.size w w':=by
 go_enter func63,ntmps63
 go_wp2_with fail;go_loopw [3] (fun v wr=>v=.int .i64 0∧Below w.heap.size w wr) (fun _ _=>0)
 case atStart=>exact vz
 case round=>
  obtain⟨rfl,hb⟩:=hrel;go_wp2_with fail;go_loopw [5,6] (fun u v wr=>u=.slice none 0 0∧v=.int .i64 0∧Below w.heap.size w wr) (fun _ _ _=>0)
  case atStart=>exact xe
  case round=>
   clear hb;obtain⟨rfl,rfl,hb⟩:=hrel;go_wp2_with fail;go_loopw [9] (fun v wr=>v=.int .i64 0∧Below w.heap.size w wr) (fun _ _=>0)
   case atStart=>exact uy
   case round=>
    clear hb;exact vk
theorem aiX (w:World):Calls prog 64 #[.slice none 0 0] w fun e w'=>e=.returned (.bool true)∧Below w.heap.size w w':=by
 go_enter func64,ntmps64
 go_wp2_with fail;go_loopw [3] (fun v wr=>v=.int .i64 0∧Below w.heap.size w wr) (fun _ _=>0)
 case atStart=>exact vz
 case round=>
  obtain⟨rfl,hb⟩:=hrel;go_wp2_with fail;go_loopw [5,6] (fun u v wr=>u=.slice none 0 0∧v=.int .i64 0∧Below w.heap.size w wr) (fun _ _ _=>0)
  case atStart=>exact xe
  case round=>
   clear hb;obtain⟨rfl,rfl,hb⟩:=hrel;go_wp2_with fail;go_loopw [9] (fun v wr=>v=.int .i64 0∧Below w.heap.size w wr) (fun _ _=>0)
   case atStart=>exact uy
   case round=>
    clear hb;exact vk
theorem aiY (w:World):Calls prog 65 #[.slice none 0 0] w fun e w'=>e=.returned (.bool true)∧Below w.heap.size w w':=by
 go_enter func65,ntmps65
 go_wp2_with fail;go_loopw [3] (fun v wr=>v=.int .i64 0∧Below w.heap.size w wr) (fun _ _=>0)
 case atStart=>exact vz
 case round=>
  obtain⟨rfl,hb⟩:=hrel;go_wp2_with fail;go_loopw [5,6] (fun u v wr=>u=.slice none 0 0∧v=.int .i64 0∧Below w.heap.size w wr) (fun _ _ _=>0)
  case atStart=>exact xe
  case round=>
   clear hb;obtain⟨rfl,rfl,hb⟩:=hrel;go_wp2_with fail;go_loopw [9] (fun v wr=>v=.int .i64 0∧Below w.heap.size w wr) (fun _ _=>0)
   case atStart=>exact uy
   case round=>
    clear hb;exact vk
theorem aiZ (w:World):Calls prog 67 #[.slice none 0 0] w fun e w'=>e=.returned (.bool true)∧Below w.heap.size w w':=by
 go_enter func67,ntmps67
 go_wp2_with fail;go_loopw [3] (fun v wr=>v=.int .i64 0∧Below w.heap.size w wr) (fun _ _=>0)
 case atStart=>exact vz
 case round=>
  obtain⟨rfl,hb⟩:=hrel;go_wp2_with fail;go_loopw [5,6] (fun u v wr=>u=.slice none 0 0∧v=.int .i64 0∧Below w.heap.size w wr) (fun _ _ _=>0)
  case atStart=>exact xe
  case round=>
   clear hb;obtain⟨rfl,rfl,hb⟩:=hrel;go_wp2_with fail;go_loopw [9] (fun v wr=>v=.int .i64 0∧Below w.heap.size w wr) (fun _ _=>0)
   case atStart=>exact uy
   case round=>
    clear hb;exact vk
theorem ai0 (w:World):Calls prog 68 #[.slice none 0 0] w fun e w'=>e=.returned (.bool true)∧Below w.heap.size w w':=by
 go_enter func68,ntmps68
 go_wp2_with fail;go_loopw [3] (fun v wr=>v=.int .i64 0∧Below w.heap.size w wr) (fun _ _=>0)
 case atStart=>exact vz
 case round=>
  obtain⟨rfl,hb⟩:=hrel;go_wp2_with fail;go_loopw [5,6] (fun u v wr=>u=.slice none 0 0∧v=.int .i64 0∧Below w.heap.size w wr) (fun _ _ _=>0)
  case atStart=>exact xe
  case round=>
   clear hb;obtain⟨rfl,rfl,hb⟩:=hrel;go_wp2_with fail;go_loopw [9] (fun v wr=>v=.int .i64 0∧Below w.heap.size w wr) (fun _ _=>0)
   case atStart=>exact uy
   case round=>
    clear hb;exact vk
theorem ai1 (w:World):Calls prog 69 #[.slice none 0 0] w fun e w'=>e=.returned (.bool true)∧Below w.heap.size w w':=by
 go_enter func69,ntmps69
 go_wp2_with fail;go_loopw [3] (fun v wr=>v=.int .i64 0∧Below w.heap.size w wr) (fun _ _=>0)
 case atStart=>exact vz
 case round=>
  obtain⟨rfl,hb⟩:=hrel;go_wp2_with fail;go_loopw [5,6] (fun u v wr=>u=.slice none 0 0∧v=.int .i64 0∧Below w.heap.size w wr) (fun _ _ _=>0)
  case atStart=>exact xe
  case round=>
   clear hb;obtain⟨rfl,rfl,hb⟩:=hrel;go_wp2_with fail;go_loopw [9] (fun v wr=>v=.int .i64 0∧Below w.heap.size w wr) (fun _ _=>0)
   case atStart=>exact uy
   case round=>
    clear hb;exact vk
theorem ai2 (w:World):Calls prog 72 #[.slice none 0 0] w fun e w'=>e=.returned (.bool true)∧Below w.heap.size w w':=by
 go_enter func72,ntmps72
 go_wp2_with fail;go_loopw [3] (fun v wr=>v=.int .i64 0∧Below w.heap.size w wr) (fun _ _=>0)
 case atStart=>exact vz
 case round=>
  obtain⟨rfl,hb⟩:=hrel;go_wp2_with fail;go_loopw [5,6] (fun u v wr=>u=.slice none 0 0∧v=.int .i64 0∧Below w.heap.size w wr) (fun _ _ _=>0)
  case atStart=>exact xe
  case round=>
   clear hb;obtain⟨rfl,rfl,hb⟩:=hrel;go_wp2_with fail;go_loopw [10] (fun v wr=>v=.int .i64 0∧Below w.heap.size w wr) (fun _ _=>0)
   case atStart=>exact uy
   case round=>
    clear hb;exact vk
theorem ai3 (w:World):Calls prog 73 #[.slice none 0 0] w fun e w'=>e=.returned (.bool true)∧Below w.heap.size w w':=by
 go_enter func73,ntmps73
 go_wp2_with fail;go_loopw [3] (fun v wr=>v=.int .i64 0∧Below w.heap.size w wr) (fun _ _=>0)
 case atStart=>exact vz
 case round=>
  obtain⟨rfl,hb⟩:=hrel;go_wp2_with fail;go_loopw [5,6] (fun u v wr=>u=.slice none 0 0∧v=.int .i64 0∧Below w.heap.size w wr) (fun _ _ _=>0)
  case atStart=>exact xe
  case round=>
   clear hb;obtain⟨rfl,rfl,hb⟩:=hrel;go_wp2_with fail;go_loopw [10] (fun v wr=>v=.int .i64 0∧Below w.heap.size w wr) (fun _ _=>0)
   case atStart=>exact uy
   case round=>
    clear hb;exact vk
theorem ai4 (w:World):Calls prog 74 #[.slice none 0 0] w fun e w'=>e=.returned (.bool true)∧Below w.heap.size w w':=by
 go_enter func74,ntmps74
 go_wp2_with fail;go_loopw [3] (fun v wr=>v=.int .i64 0∧Below w.heap.size w wr) (fun _ _=>0)
 case atStart=>exact vz
 case round=>
  obtain⟨rfl,hb⟩:=hrel;go_wp2_with fail;go_loopw [5,6] (fun u v wr=>u=.slice none 0 0∧v=.int .i64 0∧Below w.heap.size w wr) (fun _ _ _=>0)
  case atStart=>exact xe
  case round=>
   clear hb;obtain⟨rfl,rfl,hb⟩:=hrel;go_wp2_with fail;go_loopw [10] (fun v wr=>v=.int .i64 0∧Below w.heap.size w wr) (fun _ _=>0)
   case atStart=>exact uy
   case round=>
    clear hb;exact vk
theorem ai5 (w:World):Calls prog 75 #[.slice none 0 0] w fun e w'=>e=.returned (.bool true)∧Below w.heap.size w w':=by
 go_enter func75,ntmps75
 go_wp2_with fail;go_loopw [3] (fun v wr=>v=.int .i64 0∧Below w.heap.size w wr) (fun _ _=>0)
 case atStart=>exact vz
 case round=>
  obtain⟨rfl,hb⟩:=hrel;go_wp2_with fail;go_loopw [5,6] (fun u v wr=>u=.slice none 0 0∧v=.int .i64 0∧Below w.heap.size w wr) (fun _ _ _=>0)
  case atStart=>exact xe
  case round=>
   clear hb;obtain⟨rfl,rfl,hb⟩:=hrel;go_wp2_with fail;go_loopw [10] (fun v wr=>v=.int .i64 0∧Below w.heap.size w wr) (fun _ _=>0)
   case atStart=>exact uy
   case round=>
    clear hb;exact vk
theorem ai6 (w:World):Calls prog 70 #[.slice none 0 0] w fun e w'=>e=.returned (.bool true)∧Below w.heap.size w w':=by
 go_enter func70,ntmps70
 go_wp2_with fail;go_loopw [3,4] (fun u v wr=>u=.slice none 0 0∧v=.int .i64 0∧Below w.heap.size w wr) (fun _ _ _=>0)
 case atStart=>exact⟨rfl,rfl,aC _ _⟩
 case round=>
  obtain⟨rfl,rfl,hb⟩:=hrel;go_wp2_with fail;go_loopw [7] (fun v wr=>v=.int .i64 0∧Below w.heap.size w wr) (fun _ _=>0)
  case atStart=>exact uy
  case round=>
   clear hb;exact vk
theorem ajh (a i:Nat) (h:(a+64)*176≤140737488355328) (hi:i < 64):(a+i+1)*176≤140737488355328:=bQ (vL 176 (show a+i+1≤a+64 by omega)) h
def FE (k i:Nat):Int:=-1000000*((k:Int)+1) - (i:Int)
theorem acC (a:Nat) (h:(a+64)*176≤140737488355328):a≤140737488355328:=ae
theorem acD (k:Nat) (h:k≤100000):IntKind.i64.wrap (-1000000*((k:Int)+1)) = -1000000*((k:Int)+1):=IntWalk.i64_in _ ae
theorem acE (k i a:Nat) (h:k≤100000) (ha:(a+64)*176≤140737488355328) (hi:i≤a+64):IntKind.i64.wrap (-1000000*((k:Int)+1) - (i:Int))=FE k i:=by
 have:=acC a ha;exact IntWalk.i64_in _ ae
theorem aji (k i a:Nat) (h:k≤100000) (ha:(a+64)*176≤140737488355328) (hi:i≤64):IntKind.i64.wrap (-1000000*((k:Int)+1) - ((a:Int)+(i:Int)))=FE k (a+i):=by
 have:=acE k (a+i) a h ha ae;rw[← this]
 congr 2
def IV (z:Int):Array Value:=#[.int .i64 0,.int .i64 0,.string ⟨#[]⟩,.int .i64 0,.int .u64 0,.int .i64 z,.int .i64 0,.bool false,.bool false,.int .i64 0,.int .i64 0,.int .i64 0,.int .i64 0,.int .i64 0,.int .i64 0,.int .i64 0,.int .i64 0,.string ⟨#[]⟩,.slice none 0 0]
def rW (k i:Nat):Row 19:=⟨(IV (FE k i)).toList,rfl⟩
theorem acF (z:Int):(IV z).all (·.oneCell')=true:=by unfold IV;simp[Value.oneCell']
theorem acG (g:Nat):∀ (vs:List Value) (o:Nat) (w:World),setRow w g o vs=w.setCells g o vs
 | [],o,w=>rfl
 | v::vs,o,w=>by rw[setRow,World.setCells];exact acG g vs (o+1) _
theorem ajj {P:Program} {ops:Array Oper} {rest:List Oper} {o:Oper} {a:Act} {w:World} {Q:Exit→Act→World→Prop} {g off:Nat} {cs:Array Value} (ht:w.there g off cs.size) (ty:TypeId) (x y:Operand)
  (hi:(P.info? ty).map (·.size)=some cs.size) (h1:cs.all (·.oneCell')=true) (h:wpList P ops Q rest (a.put o.dst undef) (w.setCells g off cs.toList))
  (hgd:o.guard=none:=by rfl) (ho:o.op=.store ty x y:=by rfl) (hx:a.eval x=.pointer (some ⟨g,off,none⟩):=by rfl) (hy:a.eval y=.agg cs:=by rfl):wpList P ops Q (o::rest) a w:=
 wpList_store_mid hgd ty x y ho g off cs hx hy ht hi h1 h
theorem acH {w:World} {a:Option Addr} {cap:Nat} {l:List (Row 19)} (h:bA w Row.en 19 a cap l) {k:Nat} (hk:k < l.length) :
  ∃ b o,a=some ⟨b,o,none⟩∧b < w.heap.size∧w.cell? ⟨b,o+k*19+5,none⟩=(Row.en l[k])[5]?:=by
 obtain⟨b,o,rfl,hb,hc⟩:=bA.cells h Row.pU ah hk;exact⟨b,o,rfl,hb,by rw[kE];exact hc 5 ah⟩
theorem ajk (base m:Nat) (vs:Nat→Value) (xs:Nat→List (Row 19)) (al:Option Addr) (cl:Nat) (w:World) (hm:m≤100000) (hB:base≤w.heap.size)
  (ho:∀ j,j < m→aG w base 63 19 Row.en (vs j) (xs j)) (hap:∀ i j,i < m→j < m→i≠j→Apart (vs i) (vs j))
  (Du:aG w base 37 1 qq (.slice al m cl) ((List.range m).map vs)) (hr:∀ j,j < m→((xs j).length+64)*176≤140737488355328) :
  Calls prog 71 #[.slice al m cl] w fun e w'=>e=.returned (.bool true)∧Below base w w'∧qx 63 37 w w':=by
 have hne:63≠37:=ah;refine U3 ?_;intro n hn
 have ha0:fw Row.en 19 63 37 base m vs (.slice al m cl) w xs w:=⟨aC _ _,ho,Du,qx.refl _ _ _⟩
 have ia:kZ m rW n 0 0 xs:=kZ.start fun j _=>(hn j).symm
 have hr':∀ j,j < m→(n j+64)*176≤140737488355328:=fun j hj=>by rw[hn];exact hr j hj
 clear ho Du hr hn;go_enter func71,ntmps71
 go_wp2_with fail;go_loopw [3] (fun v wr=>∃ k X,k≤m∧v=.int .i64 (k:Nat)∧fw Row.en 19 63 37 base m vs (.slice al m cl) w X wr∧kZ m rW n k 0 X) (fun v _=>m - (intOf v).toNat)
 case atStart=>exact⟨0,xs,bV _,rfl,ha0,ia⟩
 case round=>
  clear ha0 ia;obtain⟨k,X,hk,rfl,ha,hp⟩:=hrel;by_cases hlt:k < m
  ·go_wp2_with fail;obtain⟨bl,ol,rfl,xF,xG⟩:=bA.cell1 ha.ls.sl.2 id (fun _=>rfl) (k:=k) Bi;go_loopw [4] (fun v wr=>∃ i X,i≤n k∧v=.int .i64 (i:Nat)∧fw Row.en 19 63 37 base m vs (.slice (some ⟨bl,ol,none⟩) m cl) w X wr∧kZ m rW n k i X) (fun v _=>n k - (intOf v).toNat)
   case atStart=>exact⟨0,X,bV _,rfl,ha,hp⟩
   case round=>
    clear ha hp xG xF X;obtain⟨i,X,hi,rfl,ha,hp⟩:=hrel;obtain⟨IK,IL,BJ,hbl,hcl⟩:=bA.cell1 ha.ls.sl.2 id (fun _=>rfl) (k:=k) Bi;cases BJ
    rw[LU]at hcl;simp only[id]at hcl;obtain⟨av,cv,hv,gW⟩:=(ha.own k hlt).shape;rw[hp.len k hlt]at hv;have kH:=gW.len;rw[hp.len k hlt]at kH;rw[hv]at hcl;by_cases jV:i < n k
    ·obtain⟨g,cv',hv',hbg,Uk,_,_⟩:=(ha.own k hlt).block (by rw[hp.len k hlt];omega);rw[hp.len k hlt]at hv';rw[hv]at hv';cases hv'
     have hst:∀ (W:World),(fw Row.en 19 63 37 base m vs (.slice (some ⟨bl,ol,none⟩) m cl) w X W∨fw Row.en 19 63 37 base m vs (.slice (some ⟨bl,ol,none⟩) m cl) w (fun j=>if j=k then (X k).set i (rW k i) else X j) W)→fw Row.en 19 63 37 base m vs (.slice (some ⟨bl,ol,none⟩) m cl) w (fun j=>if j=k then (X k).set i (rW k i) else X j) (setRow W g (i*19) (Row.en (rW k i))):=by
      intro W hW;rcases hW with h|h
      ·exact h.store hap hne Row.pU hlt hv Ig _
      ·have:=h.store hap hne Row.pU hlt hv (i:=i) U4 (rW k i);rw[kZ.again]at this;exact this
     have zP:=hp.next hlt jV;obtain⟨X',LV⟩:∃ X',X' = (fun j=>if j=k then (X k).set i (rW k i) else X j):=⟨_,rfl⟩
     rw[← LV]at hst zP;have Qn:wr.there g (i*19) 19:=fun j hj=>by
      have hfr:=ha.own k hlt;rw[hv]at hfr;obtain⟨u,hu⟩:=ha.room Row.pU hlt hv Ig (j:=j) hj;exact⟨by rw[hu];rfl,hfr.free _⟩
     have hnew:=hst wr (.inl ha);rw[acG]at hnew;obtain⟨Z,hZ⟩:∃ Z,Z=FE k i:=⟨_,rfl⟩
     obtain⟨D,hD⟩:∃ D,D=IV Z:=⟨_,rfl⟩
     have hDl:(rW k i).en=D.toList:=(by rw[hD,hZ];rfl);rw[hDl]at hnew;have jB:D.all (·.oneCell')=true:=(by rw[hD];exact acF Z);have Vw:D.size=19:=(by rw[hD];rfl);replace Qn:wr.there g (i*19) D.size:=(by rw[Vw];exact Qn);refine aY hD hnew Qn ?_;intro HD acI HTH;obtain⟨W2,hW2⟩:∃ W2,W2=wr.setCells g (i*19) D.toList:=⟨_,rfl⟩
     have auO:n k≤140737488355328:=LC;have hw1:IntKind.i64.wrap (-1000000*((k:Int)+1)) = -1000000*((k:Int)+1):=IntWalk.i64_in _ ae;have hw2:IntKind.i64.wrap (-1000000*((k:Int)+1) - (i:Int))=Z:=(by rw[hZ];exact IntWalk.i64_in _ ae);have hsz:(prog.info? 63).map (·.size)=some D.size:=(by rw[Vw];exact uA);have rX:=Qh hW2;clear hnew hst Qn hDl hD Vw hW2 gW hZ;go_wp2_with (refine ajj (cs:=D) HTH.o 63 (.tmp 39) (.tmp 38) hsz jB ?_ (hy:=by rw[HD.o];rfl);rw[← rX.o])
     have hnew:=acI.o;rw[← rX.o]at hnew;clear acI HTH rX;go_wp2_with fail;go_roundw;case rel=>exact⟨i+1,X',ae,bL,hnew,zP⟩
     case measure=>exact bY
    ·obtain rfl:i=n k:=by omega
     have o9:=hp.row hlt;go_wp2_with fail;go_roundw;case rel=>exact⟨k+1,X,ae,bL,ha,o9⟩
     case measure=>exact bY
  ·have gO:Hid (k=m):=Qh ae;have hb0:=mS.start ha (gO.o ▸ hp) vs;clear ha hp;obtain⟨kq,xH⟩:∃ x,x=k:=⟨_,rfl⟩
   subst xH;go_wp2_with fail;go_loopw [5,6] (fun jZ v wr=>∃ k G,k≤m∧v=.int .i64 (k:Nat)∧mS Row.en 19 63 37 base m vs (.slice al m cl) w rW n k G jZ wr) (fun _ v _=>m - (intOf v).toNat)
   case atStart=>exact⟨0,vs,bV _,rfl,hb0⟩
   case round=>
    clear hb0 gO hlt hk X;obtain⟨k,G,hk,rfl,hb⟩:=hrel;have Dv:=hb.gs.shape;rw[iw,List.length_range]at Dv;obtain⟨ag,cg,rfl,cV⟩:=Dv;by_cases hlt:k < m
    ·have hc0:=hb.enter hap hlt;obtain⟨bl,ol,rfl,xF,xG⟩:=bA.cell1 hb.a.ls.sl.2 id (fun _=>rfl) (k:=k) Bi;have hcl:=hb.a.CY hlt;clear hb xF xG;go_wp2_with fail;go_loopw [7,8,9] (fun gv v v9 wr=>∃ i:Nat,i≤64∧v=.int .i64 (i:Nat)∧vX Row.en 19 63 37 base m vs (.slice (some ⟨bl,ol,none⟩) m cl) w rW n k G (.slice ag k cg) gv i wr) (fun _ v _ _=>64 - (intOf v).toNat)
     case atStart=>exact⟨0,bV _,rfl,hc0⟩
     case round=>
      clear hc0 hcl;obtain⟨i,hi,rfl,hc⟩:=hrel;have Dw:=hc.cur.shape;rw[iX]at Dw;obtain⟨ac,cc,rfl,hsc⟩:=Dw;by_cases jV:i < 64
      ·have hcl:=hc.a.CY hlt;obtain⟨av,cv,hv,gW⟩:=(hc.a.own k hlt).shape;rw[iX]at hv;have kH:=gW.len;rw[iX]at kH;rw[hv]at hcl;clear hv;go_upto_region 16 with fail
       have hc1:=hc;obtain⟨Z,hZ⟩:∃ Z,Z=FE k (n k+i):=⟨_,rfl⟩
       have tD:=acC _ (hr' k hlt);have rY:=Qh (acD k (bQ (gV hlt) hm));have rX:=Qh (show IntKind.i64.wrap (-1000000*((k:Int)+1) - ((n k:Int)+(i:Int)))=Z by rw[hZ];exact aji k i (n k) (bQ (gV hlt) hm) (hr' k hlt) (gV jV));have nY:=Qh (ajh (n k) i (hr' k hlt) jV);obtain⟨Y,hY⟩:∃ Y,Y=rW k (n k+i):=⟨_,rfl⟩
       have HY:=Qh (show Y.en=(IV Z).toList by rw[hY,hZ];rfl);have L0:=Qh hY;have HY1:Hid (∀ u∈Y.en,u.oneCell' = true):=Qh fun u hu=>(LF.1 (acF Z)) u (Array.mem_toList_iff.1 (by rw[← HY.o];exact hu))
       obtain⟨D2,L6⟩:∃ D2,D2=IV Z:=⟨_,rfl⟩
       have zj:=Qh L6;clear hc hY gW hsc cV L6 hZ;go_upto_region 17 with fail
       have hw1:=rY.o;have hw2:=rX.o;go_wp2_with (first|(refine Great.wpList_buildSliceTo rfl 37 63 1 #[(0,.tmp 67)] rfl wr.heap.size rfl (some 68) rfl underlying37 D2 (by rw[zj.o];kernel_rfl) ?_)|(at_builtin;go_loud (refine Vv IW (marksOf rW k (n k+i)) Y hc1.cur hc1.a.cL hB (by rw[iX];exact nY.o) ?_ (hy:=by rw[HY.o,zj.o]) (hlen:=Row.pU _) (hone:=HY1.o))))
       intro v' w2 ho2 hb2 hg2 hv2 Dx;clear hw1 hw2 rY rX;rw[L0.o]at ho2;have hc2:=hc1.step hne Row.pU hlt ho2 hb2 hg2 hv2 Dx;clear hc1 ho2 hb2 hg2 hv2 Dx;go_wp2
       go_roundw;case rel=>exact⟨i+1,ae,bL,hc2⟩
       case measure=>exact bY
      ·obtain rfl:i=64:=by omega
       go_wp2_with (at_builtin;go_loud (refine iL acJ ((List.range k).map G) (.slice ac (n k+64) cc) hc.gs hc.a.cL hB cO ?_ (hone:=Ii)))
       intro v' w2 ho2 hb2 hg2 hv2;have hb3:=hc.leave hne ho2 hb2 hg2 hv2;clear hc ho2 hb2 hg2 hv2 hsc;go_wp2
       go_roundw;case rel=>exact⟨k+1,_,ae,bL,hb3⟩
       case measure=>exact bY
    ·have gO:m=k:=ae;subst gO;clear cV;go_wp2_with fail;go_loopw [10] (fun v wr=>∃ k:Nat,k≤m∧v=.int .i64 (k:Nat)∧mS Row.en 19 63 37 base m vs (.slice al m cl) w rW n m G (.slice ag m cg) wr) (fun v _=>m - (intOf v).toNat)
     case atStart=>exact H8
     case round=>
      clear hb hlt hk;obtain⟨k,hk,rfl,hb⟩:=hrel;by_cases hlt:k < m
      ·go_wp2_with fail;obtain⟨bg,og,rfl,rV⟩:=hb.IP hlt;obtain⟨bl,ol,rfl,hcl⟩:=hb.a.IQ hlt;clear rV hcl;go_loopw [11,12] (fun v v12 wr=>∃ i:Nat,i≤n k+64∧v=.int .i64 (i:Nat)∧mS Row.en 19 63 37 base m vs (.slice (some ⟨bl,ol,none⟩) m cl) w rW n m G (.slice (some ⟨bg,og,none⟩) m cg) wr) (fun v _ _=>n k+64 - (intOf v).toNat)
       case atStart=>exact H8
       case round=>
        clear hb;obtain⟨i,hi,rfl,hb⟩:=hrel;obtain⟨ga,gc,tC,cV⟩:=(hb.xI k hlt).shape;rw[iX]at tC;obtain⟨bg',og',e1,rV⟩:=hb.IP hlt;cases e1
        rw[tC]at rV;have LY:=cV.len;rw[iX]at LY;by_cases jV:i < n k+64
        ·obtain⟨bq,oq,rfl,hbq,hg0⟩:=acH cV (k:=i) (by rw[iX];exact jV);rw[IU]at hg0;have HG0:=Qh (show wr.cell? ⟨bq,oq+i*19+5,none⟩=some (.int .i64 (FE k i))from hg0);clear hg0;obtain⟨IK,IL,e1,hcl⟩:=hb.a.IQ hlt;cases e1
         obtain⟨av,cv,hv,gW⟩:=(hb.a.own k hlt).shape;rw[iX]at hv;rw[hv]at hcl;have hlv:=gW.len;rw[iX]at hlv;go_upto_region 25 with fail
         obtain⟨Z,hZ⟩:∃ Z,Z=FE k i:=⟨_,rfl⟩
         have hg0:wr.cell? ⟨bq,oq+i*19+5,none⟩=some (.int .i64 Z):=(by rw[hZ];exact HG0.o);clear HG0;have rY:=Qh (acD k (bQ (gV hlt) hm));have rX:=Qh (show IntKind.i64.wrap (-1000000*((k:Int)+1) - (i:Int))=Z by rw[hZ];exact acE k i (n k) (bQ (gV hlt) hm) (hr' k hlt) (gV jV));have HZ:=Qh hZ;clear hZ;by_cases hin:(i:Int) < n k
         ·obtain⟨bv,ov,rfl,Dy,hl0⟩:=acH gW (k:=i) (by rw[iX];omega);rw[IU]at hl0;replace hl0:wr.cell? ⟨bv,ov+i*19+5,none⟩=some (.int .i64 Z):=(by rw[HZ.o];exact hl0);clear cV gW tC hv;have ajl:(Z != Z)=false:=aB;have hw1:=rY.o;have hw2:=rX.o;go_upto_region 26 with fail
          clear hw1 hw2 rY rX;go_wp2_with fail;go_roundw;case rel=>exact⟨i+1,ae,bL,hb⟩
          case measure=>exact bY
         ·have hdec:decide (i < n k)=false:=dU ae;have ajl:(Z != Z)=false:=aB;clear cV gW tC hv;have hw1:=rY.o;have hw2:=rX.o;go_upto_region 26 with fail
          clear hw1 hw2 rY rX;go_wp2_with fail;go_roundw;case rel=>exact⟨i+1,ae,bL,hb⟩
          case measure=>exact bY
        ·obtain rfl:i=n k+64:=by omega
         go_wp2_with fail;go_roundw;case rel=>exact⟨k+1,ae,bL,hb⟩
         case measure=>exact bY
      ·exact UU
theorem aG.qV {α:Type} {w w':World} {base size:Nat} {e' e e2:TypeId} {en:α→List Value} {v:Value} {xs:List α} (h:aG w base e' size en v xs) (he:e'≠e) (rZ:e'≠e2) (hk:qx e e2 w w'):aG w' base e' size en v xs:=
 h.vo fun k pW=>by
  obtain⟨c,fz,h3⟩:=zF h k pW;exact hk k c e' fz h3 he rZ
def uK {α:Type} (l:List ((Value×List α)×Nat×Nat)) (j:Nat):Value:=((l[j]?).map (·.1.1)).getD undef
def xM {α:Type} (l:List ((Value×List α)×Nat×Nat)) (j:Nat):List α:=((l[j]?).map (·.1.2)).getD []
theorem ajU {α:Type} (l:List ((Value×List α)×Nat×Nat)):l.map (·.1.1)=(List.range l.length).map (uK l):=by
 refine List.ext_getElem aB fun i h1 h2=>?_
 rw[iw]at h1;simp[uK,h1]
structure qz {α:Type} (w:World) (base:Nat) (e:TypeId) (size:Nat) (en:α→List Value) (l:List ((Value×List α)×Nat×Nat)):Prop where
 own:∀ j,j < l.length→aG w base e size en (uK l j) (xM l j)
 ap:∀ i j,i < l.length→j < l.length→i≠j→Apart (uK l i) (uK l j)
theorem qz.keep {α:Type} {w w':World} {base:Nat} {e:TypeId} {size:Nat} {en:α→List Value} {l:List ((Value×List α)×Nat×Nat)} (h:qz w base e size en l) (hb:Below w.heap.size w w'):qz w' base e size en l:=
 ⟨fun j hj=>(h.own j hj).keep hb af,h.ap⟩
theorem qz.qV {α:Type} {w w':World} {base:Nat} {e' e e2:TypeId} {size:Nat} {en:α→List Value} {l:List ((Value×List α)×Nat×Nat)} (h:qz w base e' size en l) (he:e'≠e) (rZ:e'≠e2) (hk:qx e e2 w w'):qz w' base e' size en l:=
 ⟨fun j hj=>(h.own j hj).qV he rZ hk,h.ap⟩
theorem ajV (w0:World) (kb base:Nat) (hB:base≤w0.heap.size) (TX:List ((Value×List (List UInt8))×Nat×Nat)) (RW:List ((Value×List (Int×List UInt8))×Nat×Nat)) (SG:List ((Value×List (Row 19))×Nat×Nat))
  (nt:TX.length≤100000) (nr:RW.length≤1000000) (ns:SG.length≤100000) (bt:∀ j,j < TX.length→(xM TX j).length≤4000000) (br:∀ j,j < RW.length→(xM RW j).length≤256) (bs:∀ j,j < SG.length→(xM SG j).length≤64)
  (w:World) (h:ie w0 w kb (TX.map (·.1.1)) (RW.map (·.1.1)) (SG.map (·.1.1))) (lt:qz w base 9 1 dr TX) (lr:qz w base 45 2 fS RW) (ls:qz w base 63 19 Row.en SG) :
  Calls prog 26 #[.pointer (some ⟨kb,0,none⟩)] w fun e w'=>e=.returned (.bool true)∧Below base w w':=by
 obtain⟨⟨u,v,z,hc,ht,hr,hs⟩,ho,-⟩:=h;have hsz:base≤w.heap.size:=bQ hB ho.size;rw[ajU]at ht hr hs;replace ht:=ht.fU hB;replace hr:=hr.fU hB;replace hs:=hs.fU hB;obtain⟨ta,tc,eu,-⟩:=ht.shape;obtain⟨ra,rc,ev,-⟩:=hr.shape;obtain⟨sa,sc,ez,-⟩:=hs.shape;rw[iw,List.length_range]at eu ev ez;subst eu ev ez;refine lC ht hr hs lt ?_;intro HT HR HS LT;clear ht hr hs lt ho;refine fx lr ls hc (aC base w) ?_;clear lr ls hc;intro LR LS HC HB;have c1:=fun W (hW:base≤W.heap.size) (h1:aG W base 27 1 qq (.slice ta TX.length tc) ((List.range TX.length).map (uK TX))) (h2:qz W base 9 1 dr TX)=>ajn base TX.length (uK TX) (xM TX) ta tc W nt hW h2.own h2.ap h1 (fun j hj=>by have:=bt j hj;omega)
 have c5:=fun W (hW:base≤W.heap.size) (h1:aG W base 41 1 qq (.slice ra RW.length rc) ((List.range RW.length).map (uK RW))) (h2:qz W base 45 2 fS RW)=>ajf base RW.length (uK RW) (xM RW) ra rc W nr hW h2.own h2.ap h1 (fun j hj=>by have:=br j hj;omega)
 have c10:=fun W (hW:base≤W.heap.size) (h1:aG W base 37 1 qq (.slice sa SG.length sc) ((List.range SG.length).map (uK SG))) (h2:qz W base 63 19 Row.en SG)=>ajk base SG.length (uK SG) (xM SG) sa sc W ns hW h2.own h2.ap h1 (fun j hj=>by have:=bs j hj;omega)
 clear bt br bs nt nr ns;go_enter func26,ntmps26
 have f:=ai.cell ⟨_,HC.o⟩ 0 (.slice none 0 0) rfl;go_wp2_with fail;refine aQ (aiV _) ?_;intro w1 hb
 replace HR:=Qh (HR.o.keep hb af);replace LR:=Qh (LR.o.keep hb);replace HS:=Qh (HS.o.keep hb af);replace LS:=Qh (LS.o.keep hb);replace HT:=Qh (HT.o.keep hb af);replace LT:=Qh (LT.o.keep hb);replace HC:=Qh (bF HC.o hb);replace HB:=Qh (HB.o.trans (hb.mono (bQ hsz HB.o.size)));clear hb f;have f:=ai.cell ⟨_,HC.o⟩ 1 (.slice ta TX.length tc) rfl;go_wp2_with fail;refine dF (c1 _ (bQ hsz HB.o.size) HT.o LT.o) ?_;intro w2 hb hk
 replace HR:=Qh (HR.o.qV ah ah hk);replace LR:=Qh (LR.o.qV ah ah hk);replace HS:=Qh (HS.o.qV ah ah hk);replace LS:=Qh (LS.o.qV ah ah hk);replace HC:=Qh ((hk kb _ _ _ HC.o ah ah).trans HC.o);replace HB:=Qh (HB.o.trans hb);clear hb hk f c1 HT LT;have f:=ai.cell ⟨_,HC.o⟩ 2 (.slice none 0 0) rfl;go_wp2_with fail;clear f;refine Ur (aiW _) ?_;intro w3 HR LR HS LS HC HB
 have f:=ai.cell ⟨_,HC.o⟩ 3 (.slice none 0 0) rfl;go_wp2_with fail;clear f;refine Ur (aiX _) ?_;intro w4 HR LR HS LS HC HB
 have f:=ai.cell ⟨_,HC.o⟩ 4 (.slice none 0 0) rfl;go_wp2_with fail;clear f;refine Ur (aiY _) ?_;intro w5 HR LR HS LS HC HB
 have f:=ai.cell ⟨_,HC.o⟩ 5 (.slice ra RW.length rc) rfl;go_wp2_with fail;refine dF (c5 _ (bQ hsz HB.o.size) HR.o LR.o) ?_;intro w6 hb hk
 replace HS:=Qh (HS.o.qV ah ah hk);replace LS:=Qh (LS.o.qV ah ah hk);replace HC:=Qh ((hk kb _ _ _ HC.o ah ah).trans HC.o);replace HB:=Qh (HB.o.trans hb);clear hb hk f c5 HR LR;have f:=ai.cell ⟨_,HC.o⟩ 6 (.slice none 0 0) rfl;go_wp2_with fail;clear f;refine OO (aiZ _) ?_;intro w7 HS LS HC HB
 have f:=ai.cell ⟨_,HC.o⟩ 7 (.slice none 0 0) rfl;go_wp2_with fail;clear f;refine OO (ai0 _) ?_;intro w8 HS LS HC HB
 have f:=ai.cell ⟨_,HC.o⟩ 8 (.slice none 0 0) rfl;go_wp2_with fail;clear f;refine OO (ai1 _) ?_;intro w9 HS LS HC HB
 have f:=ai.cell ⟨_,HC.o⟩ 9 (.slice none 0 0) rfl;go_wp2_with fail;clear f;refine OO (ai6 _) ?_;intro fC HS LS HC HB
 have f:=ai.cell ⟨_,HC.o⟩ 10 (.slice sa SG.length sc) rfl;go_wp2_with fail;refine dF (c10 _ (bQ hsz HB.o.size) HS.o LS.o) ?_;intro xD hb hk
 replace HC:=Qh ((hk kb _ _ _ HC.o ah ah).trans HC.o);replace HB:=Qh (HB.o.trans hb);clear hb hk f c10 HS LS;have f:=ai.cell ⟨_,HC.o⟩ 11 (.slice none 0 0) rfl;go_wp2_with fail;clear f;refine OZ (ai2 _) ?_;intro FB HC HB
 have f:=ai.cell ⟨_,HC.o⟩ 12 (.slice none 0 0) rfl;go_wp2_with fail;clear f;refine OZ (ai3 _) ?_;intro BH HC HB
 have f:=ai.cell ⟨_,HC.o⟩ 13 (.slice none 0 0) rfl;go_wp2_with fail;clear f;refine OZ (ai4 _) ?_;intro w14 HC HB
 have f:=ai.cell ⟨_,HC.o⟩ 14 (.slice none 0 0) rfl;go_wp2_with fail;clear f;refine OZ (ai5 _) ?_;intro w15 HC HB
 exact ui
end Go.Proofs.YtfflljgnpfldfaaGreatDoor
