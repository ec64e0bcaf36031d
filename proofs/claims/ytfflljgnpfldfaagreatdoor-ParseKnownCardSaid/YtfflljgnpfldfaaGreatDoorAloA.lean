/-
  The walk of ParseAlone.
-/
import Derived.Test.YtfflljgnpfldfaaGreatDoorKnwC
import Derived.Test.YtfflljgnpfldfaaGreatDoorCmtM
import Derived.Test.YtfflljgnpfldfaaGreatDoorPa6A
import Derived.Test.YtfflljgnpfldfaaGreatDoorBr6A
set_option linter.all false
set_option maxHeartbeats 128000000
set_option maxRecDepth 100000
namespace Go.Proofs.YtfflljgnpfldfaaGreatDoor
open Go.Proofs.Tryz
open Go.RowKit Go.Shelf
theorem amz (cF:∀ s:List UInt8,s.length≤200000→∀ W,eR W→Calls prog 13 #[.string ⟨s.toArray⟩] W fun e w'=>e=.returned (.bool true)∧Below W.heap.size W w') (w:World) (hW:eR w) :
  Calls prog 7 #[] w fun e w'=>e=.returned (.bool true)∧Below w.heap.size w w':=by
 have HW:=Qh (fun W (h:Below w.heap.size w W)=>hW.keep h);clear hW;go_enter func7,ntmps7
 go_wp2_with fail;go_loopw [2,5] (fun s x wr=>∃ i:Nat,i≤66∧x=.int .i64 (i:Nat)∧s=.string ⟨(eP [66,85,95,58,32,66,79,95,32,49,32,77,58,32,56,32,65] [32,83,71,95,32,120,32,58,32,48,124,56,64,49,43,32,40,49,44,48,41,32,91,48,124,48,93,32,34,34,32,65] i).toArray⟩∧Below w.heap.size w wr) (fun _ x _=>66 - (intOf x).toNat)
 case atStart=>exact UZ
 case round=>
  obtain⟨i,hi,rfl,rfl,hb⟩:=hrel;have HB:=Qh hb;clear hb;by_cases hlt:i < 66
  ·have Gb:decide ((i:Int) < 66)=true:=fy ae;have hc1:=oH (eP [66,85,95,58,32,66,79,95,32,49,32,77,58,32,56,32,65] [32,83,71,95,32,120,32,58,32,48,124,56,64,49,43,32,40,49,44,48,41,32,91,48,124,48,93,32,34,34,32,65] i) [32,83,71,95,32,120,32,58,32,48,124,56,64,49,43,32,40,49,44,48,41,32,91,48,124,48,93,32,34,34,32,65];have kJ:(eP [66,85,95,58,32,66,79,95,32,49,32,77,58,32,56,32,65] [32,83,71,95,32,120,32,58,32,48,124,56,64,49,43,32,40,49,44,48,41,32,91,48,124,48,93,32,34,34,32,65] i).length≤3000:=Lx;have c1:=cF (eP [66,85,95,58,32,66,79,95,32,49,32,77,58,32,56,32,65] [32,83,71,95,32,120,32,58,32,48,124,56,64,49,43,32,40,49,44,48,41,32,91,48,124,48,93,32,34,34,32,65] i) ae _ (HW.o _ HB.o);have hr:eP [66,85,95,58,32,66,79,95,32,49,32,77,58,32,56,32,65] [32,83,71,95,32,120,32,58,32,48,124,56,64,49,43,32,40,49,44,48,41,32,91,48,124,48,93,32,34,34,32,65] (i+1)=eP [66,85,95,58,32,66,79,95,32,49,32,77,58,32,56,32,65] [32,83,71,95,32,120,32,58,32,48,124,56,64,49,43,32,40,49,44,48,41,32,91,48,124,48,93,32,34,34,32,65] i++[32,83,71,95,32,120,32,58,32,48,124,56,64,49,43,32,40,49,44,48,41,32,91,48,124,48,93,32,34,34,32,65]:=rfl;have HR:=Qh hr;clear hr;by_cases h62:62≤i
   ·have B8:decide ((i:Int)≥62)=true:=fy ae;go_wp2_with fail;refine pO c1 ?_;intro w3 hb bT;clear hb c1;go_wp2_with fail;go_roundw;case rel=>exact⟨i+1,ae,bL,by rw[HR.o],bT.o⟩
    case measure=>exact bY
   ·have B8:decide ((i:Int)≥62)=false:=dU ae;clear c1;go_wp2_with fail;go_roundw;case rel=>exact⟨i+1,ae,bL,by rw[HR.o],HB.o⟩
    case measure=>exact bY
  ·have Gb:decide ((i:Int) < 66)=false:=dU ae;generalize eP [66,85,95,58,32,66,79,95,32,49,32,77,58,32,56,32,65] [32,83,71,95,32,120,32,58,32,48,124,56,64,49,43,32,40,49,44,48,41,32,91,48,124,48,93,32,34,34,32,65] i=S1 at *;go_wp2_with fail;go_loopw [3,6] (fun s x wr=>∃ i:Nat,i≤258∧x=.int .i64 (i:Nat)∧s=.string ⟨(eP [66,85,95,58,32,86,65,76,95,32,49,32,120] [32,55,32,34,34] i).toArray⟩∧Below w.heap.size w wr) (fun _ x _=>258 - (intOf x).toNat)
   case atStart=>exact⟨0,bV _,rfl,rfl,HB.o⟩
   case round=>
    clear HB;obtain⟨k,hk,rfl,rfl,hb⟩:=hrel;have HB:=Qh hb;clear hb;by_cases hlt2:k < 258
    ·have MI:decide ((k:Int) < 258)=true:=fy ae;have hc1:=oH (eP [66,85,95,58,32,86,65,76,95,32,49,32,120] [32,55,32,34,34] k) [32,55,32,34,34];have kJ:(eP [66,85,95,58,32,86,65,76,95,32,49,32,120] [32,55,32,34,34] k).length≤3000:=Lx;have hr:eP [66,85,95,58,32,86,65,76,95,32,49,32,120] [32,55,32,34,34] (k+1)=eP [66,85,95,58,32,86,65,76,95,32,49,32,120] [32,55,32,34,34] k++[32,55,32,34,34]:=rfl;have HR:=Qh hr;clear hr;by_cases h62:254≤k
     ·have B8:decide ((k:Int)≥254)=true:=fy ae;have hc2:=oH (eP [66,85,95,58,32,86,65,76,95,32,49,32,120] [32,55,32,34,34] k) [32,59];have hc3:=oH (eP [66,85,95,58,32,86,65,76,95,32,49,32,120] [32,55,32,34,34] k) [32,120];have hc4:=oH (eP [66,85,95,58,32,86,65,76,95,32,49,32,120] [32,55,32,34,34] k) [32,49,46,53];have c1:=cF (eP [66,85,95,58,32,86,65,76,95,32,49,32,120] [32,55,32,34,34] k++[32,59]) xh _ (HW.o _ HB.o);have c2:=cF (eP [66,85,95,58,32,86,65,76,95,32,49,32,120] [32,55,32,34,34] k++[32,120]) xh;have c3:=cF (eP [66,85,95,58,32,86,65,76,95,32,49,32,120] [32,55,32,34,34] k++[32,49,46,53]) xh;generalize eP [66,85,95,58,32,86,65,76,95,32,49,32,120] [32,55,32,34,34] k++[32,59]=X1 at *;generalize eP [66,85,95,58,32,86,65,76,95,32,49,32,120] [32,55,32,34,34] k++[32,120]=X2 at *;generalize eP [66,85,95,58,32,86,65,76,95,32,49,32,120] [32,55,32,34,34] k++[32,49,46,53]=X3 at *;go_wp2_with fail;refine pO c1 ?_;intro w3 hb bT;replace c2:=c2 _ (HW.o _ bT.o);clear hb c1;go_wp2_with fail;refine aQ c2 ?_;intro w4 hb;have fe:=Qh (aH bT.o hb af);replace c3:=c3 _ (HW.o _ fe.o);clear hb c2;go_wp2_with fail;refine aQ c3 ?_;intro w5 hb;have ir:=Qh (aH fe.o hb af);clear hb c3;go_wp2_with fail;go_roundw;case rel=>exact⟨k+1,ae,bL,by rw[HR.o],ir.o⟩
      case measure=>exact bY
     ·have B8:decide ((k:Int)≥254)=false:=dU ae;go_wp2_with fail;go_roundw;case rel=>exact⟨k+1,ae,bL,by rw[HR.o],HB.o⟩
      case measure=>exact bY
    ·have MI:decide ((k:Int) < 258)=false:=dU ae;generalize eP [66,85,95,58,32,86,65,76,95,32,49,32,120] [32,55,32,34,34] k=S2 at *;go_wp2_with fail;go_loopw [4,7] (fun s x wr=>∃ i:Nat,i≤514∧x=.int .i64 (i:Nat)∧s=.string ⟨(eP [66,85,95,58] [32,66,79,95,32,49,32,77,58,32,56,32,65] i).toArray⟩∧Below w.heap.size w wr) (fun _ x _=>514 - (intOf x).toNat)
     case atStart=>exact⟨0,bV _,rfl,rfl,HB.o⟩
     case round=>
      clear HB;obtain⟨j,hj,rfl,rfl,hb⟩:=hrel;have HB:=Qh hb;clear hb;by_cases hlt3:j < 514
      ·have amA:decide ((j:Int) < 514)=true:=fy ae;have hc1:=oH (eP [66,85,95,58] [32,66,79,95,32,49,32,77,58,32,56,32,65] j) [32,66,79,95,32,49,32,77,58,32,56,32,65];have kJ:(eP [66,85,95,58] [32,66,79,95,32,49,32,77,58,32,56,32,65] j).length≤9000:=Lx;have c1:=cF (eP [66,85,95,58] [32,66,79,95,32,49,32,77,58,32,56,32,65] j) ae _ (HW.o _ HB.o);have hr:eP [66,85,95,58] [32,66,79,95,32,49,32,77,58,32,56,32,65] (j+1)=eP [66,85,95,58] [32,66,79,95,32,49,32,77,58,32,56,32,65] j++[32,66,79,95,32,49,32,77,58,32,56,32,65]:=rfl;have HR:=Qh hr;clear hr;by_cases h62:511≤j
       ·have B8:decide ((j:Int)≥511)=true:=fy ae;go_wp2_with fail;refine pO c1 ?_;intro w3 hb bT;clear hb c1;go_wp2_with fail;go_roundw;case rel=>exact⟨j+1,ae,bL,by rw[HR.o],bT.o⟩
        case measure=>exact bY
       ·have B8:decide ((j:Int)≥511)=false:=dU ae;clear c1;go_wp2_with fail;go_roundw;case rel=>exact⟨j+1,ae,bL,by rw[HR.o],HB.o⟩
        case measure=>exact bY
      ·have amA:decide ((j:Int) < 514)=false:=dU ae;exact ui
theorem amB (c1:∀ W,eR W→Calls prog 5 #[] W fun e w'=>e=.returned (.bool true)∧Below W.heap.size W w')
  (c0:∀ W,eR W→Calls prog 4 #[] W fun e w'=>e=.returned (.bool true)∧Below W.heap.size W w')
  (c2:∀ W,eR W→Calls prog 6 #[] W fun e w'=>e=.returned (.bool true)∧Below W.heap.size W w')
  (c3:∀ W,eR W→Calls prog 7 #[] W fun e w'=>e=.returned (.bool true)∧Below W.heap.size W w') (w:World) (hW:eR w) :
  Calls prog 3 #[] w fun e w'=>e=.returned (.bool true)∧Below w.heap.size w w':=by
 have HW:=Qh (fun W (h:Below w.heap.size w W)=>hW.keep h);replace c0:=c0 w hW;clear hW;go_enter func3,ntmps3
 go_wp2_with fail;refine aQ c0 ?_;intro w1 hb;have HB:=Qh hb;replace c1:=c1 _ (HW.o _ hb);clear hb c0;go_wp2_with fail;refine pO c1 ?_;intro w2 hb aM;replace c2:=c2 _ (HW.o _ aM.o);clear hb c1;go_wp2_with fail;refine Lf c2 ?_;intro w3 hb bT;replace c3:=c3 _ (HW.o _ bT.o);clear hb c2;go_wp2_with fail;refine aQ c3 ?_;intro w4 hb;clear c3;exact U1 (aH bT.o hb af)
def vR (d:aS) (i:Nat):Nat:=(if d.has then 1 else 0)+1+i
def Qd:List UInt8:=[66,85,95,32,58,10]
structure Alone (s:List UInt8) (d:aS) (i:Nat) (hi:i < d.msgs.length) (N M:Nat):Prop where
 le:N≤M
 lt:M≤s.length
 out:∃ (m':bj) (L C:Int),iI m' = iI d.msgs[i]∧oy ⟨false,⟨0,0,[]⟩,⟨L,C,[]⟩,[m'],[]⟩ 1048577∧jX (Qd++(s.drop N).take (M - N))=.good (bI ⟨false,⟨0,0,[]⟩,⟨L,C,[]⟩,[m'],[]⟩)
open Go.RowKit
theorem ave (n:Int) (hn:-9223372036854775808≤n∧n≤9223372036854775807) (m:Nat) (hm:0 < m) (Kh:m < 9223372036854775807) (w:World) :
  Calls prog 28 #[.int .i64 n,.int .i64 m] w fun e w'=>∃ k:Nat,k < m∧e=.returned (.int .i64 k)∧Below w.heap.size w w':=by
 have h1:n.tmod (m:Int) < m:=Int.tmod_lt_of_pos n ae;have h2:-(m:Int) < n.tmod (m:Int):=by
  exact acg
 obtain⟨r,hr⟩:∃ r,n.tmod (m:Int)=r:=⟨_,rfl⟩
 rw[hr]at h1 h2;go_enter func28,ntmps28
 by_cases Su:r < 0
 ·go_wp2
  go_ret;obtain⟨k,hk⟩:=Iy (show 0≤r+(m:Int)by omega);exact⟨k,ae,by rw[hk];rfl,aC _ _⟩
 ·go_wp2
  go_ret;obtain⟨k,hk⟩:=Iy (show 0≤r by omega);exact⟨k,ae,by rw[hk];rfl,aC _ _⟩
def xz (n:Int) (m:Nat):Nat:=if n.tmod (m:Int) < 0 then (n.tmod (m:Int)+m).toNat else (n.tmod (m:Int)).toNat
theorem Vk (n:Int) (m:Nat) (hm:0 < m):xz n m < m:=by
 have h1:n.tmod (m:Int) < m:=Int.tmod_lt_of_pos n ae;unfold xz;split<;>omega
theorem Vi (n:Int) (hn:-9223372036854775808≤n∧n≤9223372036854775807) (m:Nat) (hm:0 < m) (Kh:m < 9223372036854775807) (w:World) :
  Calls prog 28 #[.int .i64 n,.int .i64 m] w fun e w'=>e=.returned (.int .i64 (xz n m:Nat))∧w' = w:=by
 have h1:n.tmod (m:Int) < m:=Int.tmod_lt_of_pos n ae;have h2:-(m:Int) < n.tmod (m:Int):=by
  exact acg
 unfold xz;obtain⟨r,hr⟩:∃ r,n.tmod (m:Int)=r:=⟨_,rfl⟩
 rw[hr]at h1 h2 ⊢;by_cases Su:r < 0
 ·have hk:=Int.toNat_of_nonneg (show 0≤r+(m:Int)by omega);rw[if_pos Su];generalize (r+(m:Int)).toNat=k at *;have HK:=Qh hk;clear hk;go_enter func28,ntmps28
  go_wp2
  go_ret;exact⟨by rw[HK.o];rfl,rfl⟩
 ·have hk:=Int.toNat_of_nonneg (show 0≤r by omega);rw[if_neg Su];generalize r.toNat=k at *;have HK:=Qh hk;clear hk;go_enter func28,ntmps28
  go_wp2
  go_ret;exact⟨by rw[HK.o];rfl,rfl⟩
def Jr:Nat→List UInt8→Int×Int→Nat→Option (Int×Int)
 | 0,_,p,n=>if n=0 then some p else none
 | f+1,s,p,n=>if n=0 then some p else if s=[] then none else if n < (ay s).2 then none else Jr f (s.drop (ay s).2) (bW p (ay s).1) (n - (ay s).2)
theorem WC:∀ (f:Nat) (s:List UInt8) (p:Int×Int) (n:Nat) (q:Int×Int),Jr f s p n=some q→eN s p n q
 | 0,s,p,n,q,h=>by
  unfold Jr at h;split at h
  ·rename_i h0;subst h0;cases h;exact .zero _ _
  ·cases h
 | f+1,s,p,n,q,h=>by
  unfold Jr at h;split at h
  ·rename_i h0;subst h0;cases h;exact .zero _ _
  ·split at h
   ·cases h
   ·rename_i hs
    split at h
    ·cases h
    ·rename_i hn
     have:=eN.step s p _ q hs (WC f _ _ _ _ h)
     rwa [Nat.add_sub_cancel' (Nat.not_lt.1 hn)]at this
def Rh (s:List UInt8):Nat→List Mark→Bool
 | _,[]=>true
 | n,m::M=>decide (n≤(m.2.2 - 1).toNat) && (Jr s.length s (1,1) (m.2.2 - 1).toNat == some (m.2.1,m.2.2)) && decide ((m.2.2 - 1).toNat+m.1.length≤s.length) && ((s.drop (m.2.2 - 1).toNat).take m.1.length == m.1) && Rh s ((m.2.2 - 1).toNat+1) M
theorem aeB (s:List UInt8):∀ (M:List Mark) (n:Nat),Rh s n M=true→oJ s n M
 | [],n,h=>oJ.nil s n
 | m::M,n,h=>by
  unfold Rh at h;simp only[uF,rR,dZ]at h;obtain⟨⟨⟨⟨h1,h2⟩,h3⟩,h4⟩,h5⟩:=h;obtain⟨ks,g1,g2,g3⟩:=aeB s M _ h5;refine⟨(m.2.2 - 1).toNat::ks,.cons ⟨WC _ _ _ _ _ h2,h3,h4⟩ g1,List.pairwise_cons.2 ⟨fun k hk=>g3 k hk,g2⟩,fun k hk=>?_⟩;rcases nL.1 hk with rfl|hk
  ·exact h1
  ·have:=g3 k hk;omega
def yn (s:List UInt8):Option aS:=match gB s with
 | .bad _=>none
 | .good T=>match mq T with
  | .bad _ _ _=>none
  | .ok d _=>some d
theorem Rf {s:List UInt8} {d:aS} (h:yn s=some d):oy d 1048577∧tq d∧jX s=.good (bI d):=by
 unfold yn at h;split at h
 ·cases h
 ·rename_i T hT
  split at h
  ·cases h
  ·rename_i d' r hd
   cases h
   exact adT hT hd
def MJ (s:List UInt8):Bool:=match yn s with
 | none=>true
 | some d=>Rh s 0 ((bI d).flatMap Gd)
theorem amO:(D4 (eP [] [110] 64)).all MJ=true:=aj
theorem amN:MJ (il dB)=true:=aj
theorem amF:(yn (il dB)).map (fun d=>((bI d).map ji,d.has,d.msgs.length))=some ([([86,69,82,83,73,79,78],1,1),([66,85,95],1,13),([66,79,95],1,23),([66,79,95],1,169),([86,65,76,95],1,192),([86,65,76,95],1,221)],true,2):=aj
def qF:Nat→Nat
 | 0=>0|1=>12|2=>22|3=>168|4=>191|_=>220
def cmS (i:Nat):List UInt8:=(il dB).take (qF i)++((I9 (xz i 4)++[32])++(il dB).drop (qF i))
theorem amG:∀ i,i < 6→Jr 300 (il dB) (1,1) (qF i)=some (1,(qF i:Int)+1):=by decide +kernel
theorem amI:∀ i,i < 6→(yn (cmS i)).map uI=(yn (il dB)).map uI
 | 0,_=>aj
 | 1,_=>aj
 | 2,_=>aj
 | 3,_=>aj
 | 4,_=>aj
 | 5,_=>aj
def alS (i:Nat):List UInt8:=Qd++((il dB).drop (qF (i+2))).take (qF (i+3) - qF (i+2))
theorem amK:∀ i,i < 2→(yn (alS i)).map (fun d=>(d.has,d.bG,d.aR.names,d.msgs.map iI,d.tabs))=(yn (il dB)).map (fun d=>(false,⟨0,0,[]⟩,[],((d.msgs.drop i).take 1).map iI,[]))
 | 0,_=>aj
 | 1,_=>aj
theorem Vm {d:aS} {n:Nat} (h:oy d n) (hn:n≤4000000):Qf d:=by
 have tu:=h.xw;have BF:=h.xu;refine⟨by have:=h.DN;omega,ae,fun m hm=>?_,ae,fun t ht=>by have:=h.tab t ht;omega⟩;obtain⟨h1,h2⟩:=h.msg m hm;refine⟨ae,fun s hs=>?_⟩;have:=h2 s hs;omega
theorem aZ.C7 {α:Type} {rd zO:World→α→List Value→Prop} {w:World} {base:Nat} {e:TypeId} {size:Nat} {v:Value} {xs:List α} (h:aZ w base e rd size v xs) (hm:∀ x cs,rd w x cs→zO w x cs):aZ w base e zO size v xs:=by
 exact UX h
theorem akH {B:Nat} {w:World} {x:et} {l:List Value} (h:mW B w x l):uO w x l:=by
 obtain⟨v,e,ho⟩:=h;exact⟨v,e,ho.fU (bV _)⟩
theorem akI {B:Nat} {w:World} {x:bj} {l:List Value} (h:jK B w x l):DO w x l:=by
 obtain⟨v,e,ho⟩:=h;exact⟨v,e,(ho.fU (bV _)).C7 fun _ _=>akH⟩
theorem akJ {B:Nat} {w:World} {x:bK} {l:List Value} (h:nN B w x l):DR w x l:=by
 obtain⟨v,e,ho⟩:=h;exact⟨v,e,ho.fU (bV _)⟩
theorem Qi {B:Nat} {w:World} {x:aS} {l:List Value} (h:tB B w x l):Ja w x l:=by
 obtain⟨u,v,z,e,h1,h2,h3⟩:=h;exact⟨u,v,z,e,h1.fU (bV _),(h2.fU (bV _)).C7 fun _ _=>akI,(h3.fU (bV _)).C7 fun _ _=>akJ⟩
theorem adN {P:Program} {ops:Array Oper} {S:World→Prop} {o:Oper} {a:Act} {k:Nat} {cs:Array Value} (hS:∀ w,S w→ai w k cs) (ty:TypeId) (x:Operand) {d:TypeDesc}
  (hu:P.underlying ty=some d) (hi:(P.info? ty).map (·.size)=some cs.size) (hw:Region.wanted o (yielded ops a.tmps)=true)
  (ho:o.op=.load ty x:=by rfl) (hx:a.eval x=.pointer (some ⟨k,0,none⟩):=by rfl) (hd:d.isRow=true:=by rfl):YieldsIf P ops S o (.agg cs) a:=by
 refine Or.inl ⟨hw,fun w h=>?_⟩;unfold execOp;simp only[ho,hx,Instr.loadAt,Instr.sureAddr,rT,Sem.run_pure,Fu,fo (hS w h) ty d hu hd hi]
theorem akK {P:Program} {md:Region.Mode} {ops:Array Oper} {Q:Exit→Act→World→Prop} {S:World→Prop} (i j:Nat) {o o2:Oper} {fuel:Nat} {listed:Array Bool} {a:Act} {w:World} (ho:ops.toList[i]? = some o) (ho2:ops.toList[j]? = some o2) (hr:Region.ready md ops listed=[i,j])
  (h:∀ K':Act→World→Prop,Shut (∀ a w,S w→(S w→wpAnyH P md ops Q S fuel (listed.setIfInBounds i true) a w)→K' a w)→if Region.wanted o (yielded ops a.tmps)=true then Oper.wp P o a w K' Q else K' (a.put o.dst undef) w)
  (h2:∀ K':Act→World→Prop,Shut (∀ a w,S w→(S w→wpAnyH P md ops Q S fuel (listed.setIfInBounds j true) a w)→K' a w)→if Region.wanted o2 (yielded ops a.tmps)=true then Oper.wp P o2 a w K' Q else K' (a.put o2.dst undef) w) :
  wpAnyH P md ops Q S (fuel+1) listed a w:=
 wpAnyH_ready (rs:=[i,j]) hr aB (AllReadyH.cons PS h (AllReadyH.cons (by rw[← Array.getElem?_toList];exact ho2) h2 AllReadyH.nil))
theorem acw (A B:List UInt8):(⟨A.toArray⟩:ByteArray)++⟨B.toArray⟩=⟨(A++B).toArray⟩:=by
 apply ByteArray.ext;simp
theorem akL (s:List UInt8) (N:Nat) (h:N≤s.length):(⟨s.toArray⟩:ByteArray).extract 0 N=⟨(s.take N).toArray⟩:=by
 have:=Qa s 0 N
 rwa [kF,List.drop_zero]at this
theorem akM (s:List UInt8) (N:Nat) (h:N≤s.length):(⟨s.toArray⟩:ByteArray).extract N s.length=⟨(s.drop N).toArray⟩:=by
 have:=Qa s N (s.length - N)
 rwa [Nat.add_sub_cancel' h,IA (by rw[e7];exact af)]at this
theorem akN (j:Nat) (hj:j < 4) (W:World):(W.alloc (.cells #[.string ⟨#[32,67,77,95,32,59,32]⟩,.string ⟨#[32,67,77,95,32,34,120,34,32,59,32]⟩,.string ⟨#[32,67,77,95,32,66,79,95,32,50,53,54,32,34,97,59,98,34,32,44,32,40,32,64,48,43,32,59,32]⟩,.string ⟨#[32,67,77,95,32,67,77,95,32,86,69,82,83,73,79,78,32,66,85,95,32,58,32,49,46,53,32,59,32,67,77,95,32,83,71,95,32,77,32,109,48,32,59,32]⟩] 9)).cell? ⟨W.heap.size,j,none⟩=some (.string ⟨(I9 j++[32]).toArray⟩):=by
 refine(ai.new W _ _).cell j _ ?_
 match j,hj with
 | 0,_=>rfl
 | 1,_=>rfl
 | 2,_=>rfl
 | 3,_=>rfl
theorem ei.mid {α:Type} {rd:World→α→List Value→Prop} {w:World} {size b o cap:Nat} {xs:List α} (h:ei w rd size (some ⟨b,o,none⟩) cap xs) (i:Nat) (hi:i < xs.length):ei w rd size (some ⟨b,o+i*size,none⟩) (cap - i) [xs[i]]:=by
 obtain⟨rows,h1,h2⟩:=h;have hl:=h2.len;have hir:i < rows.length:=ae;have h3:=bA.P9 h1 Row.pU i ae;rw[jq hir]at h3;exact⟨[rows[i]],bA.pre (xs:=[rows[i]]) (ys:=rows.drop (i+1)) h3 Row.pU,.cons (h2.get hi hir) .nil⟩
theorem aiP (d:aS):(bI d).length=(if d.has then 1 else 0)+1+(d.msgs.length+d.tabs.length):=by
 unfold bI;cases d.has<;>simp<;>omega
theorem aiQ (s:List UInt8) (N M:Nat) (h:N≤M):(⟨s.toArray⟩:ByteArray).extract N M=⟨((s.drop N).take (M - N)).toArray⟩:=by
 have:=Qa s N (M - N)
 rwa [Nat.add_sub_cancel' h]at this
theorem acu {P:Program} {ops:Array Oper} {C:World→Prop} {Q:Act→Prop} {rest:List Oper} {o:Oper} {a:Act} {k off:Nat} {cs:List Value} (hS:∀ w,C w→w.rangeAt k off cs) (ty:TypeId) (x:Operand) {d:TypeDesc}
  (hu:P.underlying ty=some d) (hi:(P.info? ty).map (·.size)=some cs.length)
  (h:wpQuiet P ops C Q rest (a.put o.dst (.agg cs.toArray)))
  (hgd:Region.wanted o (yielded ops a.tmps)=true:=by rfl) (ho:o.op=.load ty x:=by rfl) (hx:a.eval x=.pointer (some ⟨k,off,none⟩):=by rfl) (hd:d.isRow=true:=by rfl):wpQuiet P ops C Q (o::rest) a:=by
 unfold wpQuiet;rw[if_pos hgd];exact aaY
def IH (m:bj):aS:=⟨false,⟨0,0,[]⟩,⟨0,0,[]⟩,[m],[]⟩
theorem auJ (s:List UInt8) (a:Int)
  (cR:∀ w,eR w→Calls prog 8 #[.string ⟨s.toArray⟩] w fun e w'=>e=.returned (.tuple #[.agg bf,.bool false])∧Below w.heap.size w w') (w:World) (hW:eR w) :
  Calls prog 17 #[.string ⟨s.toArray⟩,.int .i64 a] w fun e w'=>e=.returned (.bool true)∧Below w.heap.size w w':=by
 have HW:=Qh hW;clear hW;go_enter func17,ntmps17
 go_wp2_with fail;refine aQ (cR _ HW.o) ?_;intro w1 hb
 replace HW:=Qh (HW.o.keep hb);have HB:=Qh hb;clear hb cR;go_upto_region 2 with (refine eX (Z:=bf) (cs:=bf) 33 (.tmp 5) (.tmp 20) Fg rfl TT ?_)
 have dC:=(aC w1.heap.size w1).alloc af (.cells bf 33);replace HW:=Qh (HW.o.keep dC);replace HB:=Qh (aH HB.o dC af);generalize w1.alloc (.cells bf 33)=w2 at *;clear dC;go_wp2_with fail;refine CW (zK _ HW.o) ?_;intro w3 hb HW HB
 clear hb;exact OS (zK _ HW.o)
theorem aiR (s:List UInt8) (hs:s.length≤1048576) (a:Int) (ha:-9223372036854775808≤a∧a≤9223372036854775807) (d:aS) (hd:oy d 1048577) (hv:tq d) (hf:jX s=.good (bI d))
  (hpl:s.length≤524288→∀ i (hi:i < d.msgs.length),∃ N M,(∀ h:vR d i < (bI d).length,N < s.length∧eN s (1,1) N ((ji (bI d)[vR d i]).2.1,(ji (bI d)[vR d i]).2.2))∧(∀ h:vR d i+1 < (bI d).length,M < s.length∧eN s (1,1) M ((ji (bI d)[vR d i+1]).2.1,(ji (bI d)[vR d i+1]).2.2))∧(vR d i+1=(bI d).length→M=s.length)∧vR d i < (bI d).length∧Alone s d i hi N M) (w:World) (hW:eR w) :
  Calls prog 17 #[.string ⟨s.toArray⟩,.int .i64 a] w fun e w'=>e=.returned (.bool true)∧Below w.heap.size w w':=by
 have BF:=hd.xu;have tu:=hd.xw;obtain⟨L,hL⟩:∃ L,L=(bI d).length:=⟨_,rfl⟩
 have Qb:=aiP d;rw[← hL]at Qb;have hLb:L≤2000000:=(by have:=Qc hd;omega);have Vf:=Qh hd.msg;have cR:=FA s ae d hd hv hf;have cP:=fun (W:World) C hC=>Vg d ae ae C W hC
 have cA:=Qh (fun (W:World) (n:Nat) (hn:n < s.length) (L C:Int) (hb:eN s (1,1) n (L,C))=>Vh s ae n hn L C hb W);have cK:=fun (h0:0 < d.msgs.length) (W:World)=>Vi a ha d.msgs.length h0 ae W
 refine aY hpl hL hW ?_;intro BG HL HW;clear hd hv hf hpl hW hL;go_enter func17,ntmps17
 go_wp2_with fail;refine A5 (cR _ HW.o) ?_;intro w1 C hC hb uB gN
 replace HW:=Qh (HW.o.keep hb);have HB:=Qh hb;have dC:=(aC w1.heap.size w1).alloc af (.cells C 33);have eB:=Qh (tA (vS _ _ _ _ hC dC));have bO:=ai.new w1 C 33;replace HW:=Qh (HW.o.keep dC);replace HB:=Qh (aH HB.o dC af);have hu:=underlying33;clear hC hb cR dC;go_upto_region 2 with (refine eX (Z:=bf) (cs:=C) 33 (.tmp 5) (.tmp 20) Ff Dg gN ?_)
 generalize w1.alloc (.cells C 33)=w2 at *;generalize w1.heap.size=k5 at *;clear gN;go_wp2_with fail;refine CW (zK _ HW.o) ?_;intro w3 hb HW HB
 replace eB:=Qh (vT _ _ _ _ eB.o hb);replace bO:=bO.keep hb af;clear hb;obtain⟨pa,pn,pb,pm,pc,pt,eC,-,hM,-⟩:=eB.o;have f7:=bO.cell 7 (.slice pb d.msgs.length pm) (by rw[eA.1 eC];rfl);have f8:=bO.cell 8 (.slice pc d.tabs.length pt) (by rw[eA.1 eC];rfl);refine aY eC hM bO ?_;intro HEC HM df;clear eC hM bO;obtain⟨nm,zL⟩:∃ nm,nm=d.msgs.length:=⟨_,rfl⟩
 obtain⟨nt,Vj⟩:∃ nt,nt=d.tabs.length:=⟨_,rfl⟩
 rw[← zL]at f7 cK;rw[← Vj]at f8;rw[← zL,← Vj]at Qb;have auK:nm≤512:=ae;have auL:nt≤1048577:=ae;have HNM:=Qh zL;have aiS:=Qh Qb;clear Vj BF tu zL Qb;by_cases h0:nm=0∨524288 < s.length
 ·clear f8 df eB HM BG cA cK cP;by_cases h1:nm=0
  ·rw[h1]at f7;exact OS (zK _ HW.o)
  ·have h2:524288 < s.length:=ae;have b1:((nm:Int) == 0)=false:=cO;have b2:decide (524288 < (s.length:Int))=true:=fy ae;exact OS (zK _ HW.o)
 have h1:0 < nm:=ae;have hs2:s.length≤524288:=ae;have b1:((nm:Int) == 0)=false:=cO;have b2:decide (524288 < (s.length:Int))=false:=dU ae;clear h0;obtain⟨i,vU⟩:∃ i,i=xz a nm:=⟨_,rfl⟩
 have oz:i < nm:=(by rw[vU];exact Vk _ _ h1);have hi:i < d.msgs.length:=(by have:=HNM.o;omega);replace cK:=cK h1;rw[← vU]at cK;obtain⟨N,M,p1,p2,p3,p4,p5⟩:=BG.o hs2 i hi;obtain⟨hNM,hMs,m',LL,CC,hz,Dp,Dq⟩:=p5;obtain⟨k,hk⟩:∃ k,k=vR d i:=⟨_,rfl⟩
 rw[← HL.o,← hk]at p3 p4;refine lC p1 p2 p3 hk ?_;intro P1 P2 P3 HK;have hkv:((L:Int) - (nt:Nat) - (nm:Nat)+(i:Nat):Int)=(k:Nat):=(by rw[hk,aiS.o];unfold vR;omega);clear p1 p2 p3 hk BG vU;have bO:=df.o;go_wp2_with (refine fG bO 33 (.tmp 5) hu Fh ?_)
 refine aI (cP _ _ eB.o) ?_
 rintro e w5 ⟨l,u,rfl,h2⟩;obtain⟨la,lc,e1,-⟩:=h2.pl.shape;subst e1;obtain⟨ua,uc,e1,-⟩:=h2.wd.shape;subst e1;obtain⟨-,-,lb,lo,ub,uo,rfl,rfl,Dr⟩:=Vl h2 (by rw[iw,← HL.o];omega);have xC:=Qh Dr;have hb:=h2.cL;have kH:((bI d).map ji).length=L:=(by rw[iw,HL.o]);rw[kH];have q9:=Qh kH;replace HW:=Qh (HW.o.keep hb);replace HM:=Qh (HM.o.keep iE hb);replace HB:=Qh (aH HB.o hb af);replace f7:=dx f7 hb;replace f8:=dx f8 hb;clear h2 Dr hb cP kH bO df eB HEC;clear b1 b2;go_wp2_with fail;refine aI (cK _) ?_
 rintro e w6 ⟨rfl,rfl⟩;clear cK;go_upto_region 7 with fail
 clear hkv;obtain⟨x1,x2,-⟩:=xC.o k (by rw[q9.o];exact p4);obtain⟨y1,y2⟩:=P1.o (by rw[← HK.o,← HL.o];exact p4);rw[Bz]at x1 x2;simp only[← HK.o]at y2;generalize ji ((bI d)[k]'(by rw[← HL.o];exact p4))=Z at *;obtain⟨tx,Ln,Cn⟩:=Z;dsimp only at *;go_wp2_with fail;refine aQ (cA.o _ _ y1 Ln Cn y2) ?_;intro w7 hb
 replace HW:=Qh (HW.o.keep hb);replace HM:=Qh (HM.o.keep iE hb);replace HB:=Qh (aH HB.o hb af);replace f7:=dx f7 hb;replace f8:=dx f8 hb;have bE:=Qh hb;clear hb x1 x2 y1 y2 P1;by_cases nM:k+1 < L;case' neg=>
  have acv:M=s.length:=P3.o ae;clear P2 P3 xC q9 cA bE;go_upto_region 11 with fail
  rw[← acv];clear acv
 case' pos=>
  obtain⟨x1,x2,-⟩:=xC.o (k+1) (by rw[q9.o];exact nM);obtain⟨y1,y2⟩:=P2.o (by rw[← HK.o,← HL.o];exact nM);rw[Bz]at x1 x2;simp only[← HK.o]at y2;generalize ji ((bI d)[k+1]'(by rw[← HL.o];exact nM))=Z at *;obtain⟨tx2,Ln2,Cn2⟩:=Z;dsimp only at *;replace x1:=dx x1 bE.o;replace x2:=dx x2 bE.o;clear xC q9 P2 P3 bE;go_wp2_with fail;refine aQ (cA.o _ _ y1 Ln2 Cn2 y2) ?_;intro w7 hb
  replace HW:=Qh (HW.o.keep hb);replace HM:=Qh (HM.o.keep iE hb);replace HB:=Qh (aH HB.o hb af);replace f7:=dx f7 hb;replace f8:=dx f8 hb;clear hb x1 x2 y1 y2 cA;go_upto_region 11 with fail
 all_goals
  have hgt:decide ((M:Int) < (N:Nat))=false:=dU ae;have hcm:=aiQ s N M hNM;have hzl:((s.drop N).take (M - N)).length≤524288:=(by rw[uC,e7];omega);have vV:=FA (Qd++(s.drop N).take (M - N)) (by rw[ey];show 6+_≤_;omega) ⟨false,⟨0,0,[]⟩,⟨LL,CC,[]⟩,[m'],[]⟩ Dp (fun _=>rfl) Dq;rw[show Qd=[66,85,95,32,58,10]from rfl]at vV;have aiT:=acw [66,85,95,32,58,10] ((s.drop N).take (M - N));generalize (s.drop N).take (M - N)=Z at *;simp only[uD,mf]at vV;go_upto_region 13 with fail
  go_wp2_with fail;refine A5 (vV _ HW.o) ?_;intro w8 C2 hC2 hb zM jB
  have dC:=(aC w8.heap.size w8).alloc af (.cells C2 33);have hb2:=aH hb dC af;have HF:=Qh (tA (vS _ _ _ _ hC2 dC));have bO:=ai.new w8 C2 33;obtain⟨q1,q2,q3,q4,q5,q6,Qe,-,-,-⟩:=HF.o;have g7:=bO.cell 7 (.slice q3 1 q4) (by rw[eA.1 Qe];rfl);have df:=Qh bO;replace HM:=Qh (HM.o.keep iE hb2);replace HB:=Qh (aH HB.o hb2 af);replace f7:=dx f7 hb2;clear hC2 hb vV dC hb2 Qe bO HW f8 aiT hcm hgt hzl;go_upto_region 14 with (refine eX (Z:=bf) (cs:=C2) 33 (.tmp 13) (.tmp 92) (by rw[zM];exact Fg) (by rw[zM];rfl) jB ?_)
  generalize w8.alloc (.cells C2 33)=w9 at *;generalize w8.heap.size=k13 at *;clear jB;obtain⟨mb,mo,rfl,-⟩:=HM.o.at ah hi;obtain⟨nn1,auM⟩:∃ x,x=pm - i:=⟨_,rfl⟩
  have aiU:=HM.o.le;rw[← HNM.o]at aiU;have hone:rf w9 (IH d.msgs[i]) (#[.bool false,.int .i64 0,.int .i64 0,.string ⟨#[]⟩,.int .i64 0,.int .i64 0,.slice none 0 0,.slice (some ⟨mb,mo+i*8,none⟩) 1 (pm - i),.slice none 0 0]:Array Value).toList:=
   ⟨none,0,some ⟨mb,mo+i*8,none⟩,pm - i,none,0,rfl,bA.nil _ _ _,HM.o.mid i hi,ei.nil _ _ _⟩
  have acx:Qf (IH d.msgs[i]):=⟨(by decide:(0:Nat)≤4000000),(by decide:(1:Nat)≤4000000),fun m hm=>by
   obtain rfl:m=d.msgs[i]:=oY.1 hm;obtain⟨g1,g2⟩:=Vf.o _ (gU hi);exact⟨ae,g2⟩,(by decide:(0:Nat)≤4000000),fun t ht=>by cases ht⟩
  have LJ:=Qg (IH d.msgs[i]) acx (fun _=>rfl) w9 _ hone;have II:=fun (W:World) hC=>Qg ⟨false,⟨0,0,[]⟩,⟨LL,CC,[]⟩,[m'],[]⟩ (Vm Dp ae) (fun _=>rfl) W C2 hC
  have e1:uI (IH d.msgs[i])=IH (iI m'):=(by rw[hz];rfl);have e2:uI ⟨false,⟨0,0,[]⟩,⟨LL,CC,[]⟩,[m'],[]⟩=IH (iI m'):=rfl;rw[e1]at LJ;rw[e2]at II;generalize iI m' = mz at *;clear hone acx Dp Dq hz e1 e2;go_wp2_with fail;refine jH LJ ?_;intro fC E1 pV hb;obtain⟨hE9,hE0⟩:=Lh pV;have dC:=(aC fC.heap.size fC).alloc af (.cells E1 33);have hb2:=aH hb dC af;replace HF:=Qh (vT _ _ _ _ HF.o hb2);replace df:=Qh (df.o.keep hb2 af);replace HB:=Qh (aH HB.o hb2 af);have Ds:=Qh (tA (Qi (E3 _ _ _ _ _ pV dC)));have Qj:=Qh (ai.new fC E1 33);clear hb dC hb2 pV LJ;go_upto_region 17 with (refine eX (Z:=bf) (cs:=E1) 33 (.tmp 15) (.tmp 109) (by rw[hE9];exact Fg) (by rw[hE9];rfl) hE0 ?_)
  generalize fC.alloc (.cells E1 33)=xD at *;generalize fC.heap.size=Vn at *;clear hE0 f7 g7 HM;have bO:=df.o;go_wp2_with (refine fG bO 33 (.tmp 13) hu (by rw[zM];exact jw) ?_)
  refine jH (II _ HF.o) ?_;intro FB E2 LK hb
  obtain⟨hG9,hG0⟩:=Lh LK;have dC:=(aC FB.heap.size FB).alloc af (.cells E2 33);have hb2:=aH hb dC af;replace HB:=Qh (aH HB.o hb2 af);replace Ds:=Qh (vT _ _ _ _ Ds.o hb2);replace Qj:=Qh (Qj.o.keep hb2 af);have zN:=Qh (tA (Qi (E3 _ _ _ _ _ LK dC)));have Qk:=Qh (ai.new FB E2 33);clear hb dC hb2 LK II bO df HF;go_upto_region 18 with (refine eX (Z:=bf) (cs:=E2) 33 (.tmp 16) (.tmp 111) (by rw[hG9];exact Fg) (by rw[hG9];rfl) hG0 ?_)
  generalize FB.alloc (.cells E2 33)=BH at *;generalize FB.heap.size=k16 at *;obtain⟨r1,r2,r3,r4,r5,r6,eE1,-,LM,-⟩:=Ds.o;obtain⟨t1,t2,t3,t4,t5,t6,Ql,-,LN,-⟩:=zN.o;obtain⟨xb,xo,rfl,hxb,cs,hcl,ep,hrg⟩:=ei.at LM ah (show 0 < [mz].length from Nat.zero_lt_one);obtain⟨yb,yo,rfl,hyb,ds,fY,kW,lX⟩:=ei.at LN ah (show 0 < [mz].length from Nat.zero_lt_one);have u7:=Qj.o.cell 7 (.slice (some ⟨xb,xo,none⟩) 1 r4) (by rw[eA.1 eE1];rfl);have v6:=Qk.o.cell 6 (.slice t1 0 t2) (by rw[eA.1 Ql];rfl);have v7:=Qk.o.cell 7 (.slice (some ⟨yb,yo,none⟩) 1 t4) (by rw[eA.1 Ql];rfl);have v8:=Qk.o.cell 8 (.slice t5 0 t6) (by rw[eA.1 Ql];rfl);have c:=fun z:aW BH=>KZ mz z.w cs.toArray ds.toArray (iE _ _ _ _ ep z.below) (iE _ _ _ _ kW z.below)
  have hsz:(prog.info? 39).map (·.size)=some cs.length:=(by rw[hcl];exact ql);refine abU ?_;intro hsz';rw[Nat.zero_mul,q7]at hrg lX;have rr1:∀ v,(∃ z:aW BH,v=z.w)→v.rangeAt xb xo cs:=PK;have rr2:∀ v,(∃ z:aW BH,v=z.w)→v.rangeAt yb yo ds:=PJ;have l1:=fun x:aW BH=>aW.cell u7 x
  have l2:=fun x:aW BH=>aW.cell v6 x
  have l3:=fun x:aW BH=>aW.cell v7 x
  have l4:=fun x:aW BH=>aW.cell v8 x
  have IJ:=underlying39;clear ep kW hrg lX hcl fY eE1 Ql LM LN Ds zN Qj Qk hG0;try simp only[Act.put,nI,oZ,ox]
  refine rL ?_
  repeat (first|(refine acu rr1 39 (.tmp 126) IJ hsz ?_;simp only[Act.put,nI,oZ,ox])|(refine acu rr2 39 (.tmp 130) IJ hsz' ?_;simp only[Act.put,nI,oZ,ox])|go_big_quiet_step ((go_at_call 32;with_reducible exact aW.made (c _))))
  refine uk ?_;intro z;have vW:=Qh (aH HB.o z.below af);generalize z.w=w14 at *;clear c rr1 rr2 l1 l2 l3 l4;go_wp2_with fail;go_ret;exact⟨rfl,vW.o⟩
end Go.Proofs.YtfflljgnpfldfaaGreatDoor
