/-
  The walk of knownCut.
-/
import Derived.Test.YtfflljgnpfldfaaGreatDoorPrsS
import Derived.Deep.Upon
set_option linter.all false
set_option maxHeartbeats 128000000
set_option maxRecDepth 100000
namespace Go.Proofs.YtfflljgnpfldfaaGreatDoor
open Go.Proofs.Tryz
open Go.RowKit Go.Shelf
def il (l:List (List UInt8)):List UInt8:=l.flatMap fun x=>x++[32]
theorem aml {l:List (List UInt8)} {i:Nat} (h:i < l.length):il (l.take (i+1))=(il (l.take i)++l[i])++[32]:=by
 unfold il;rw[Bo h,zx];simp
theorem aev {l:List (List UInt8)} (h:∀ x∈l,x.length≤1000):(il l).length≤l.length*1001:=by
 induction l with
 | nil=>exact af
 | cons x l ih=>
  have h1:=ih fun y hy=>h y (Dj _ hy)
  have h2:=h x (List.mem_cons_self ..);show((x++[32])++il l).length≤_;simp only[ey,dz,lF]at *;omega
theorem oH (A B:List UInt8):(⟨A.toArray⟩:ByteArray)++⟨B.toArray⟩=⟨(A++B).toArray⟩:=by
 apply ByteArray.ext;simp
def dB:List (List UInt8):=[[86,69,82,83,73,79,78],[34,49,34],[66,85,95],[58],[65],[66],[66,79,95],[50,53,54],[77],[58],[56],[65],[83,71,95],[120],[77],[58],[55],[124],[52],[64,48,45],[40],[48,46,53],[44],[45,52,48],[41],[91],[45,49,101,50],[124],[56,55,46,53],[93],[34,107,109,47,104,34],[65],[44],[66],[83,71,95],[121],[109,49,50],[58],[56],[124],[56],[64,49,43],[40],[49],[44],[48],[41],[91],[48],[124],[48],[93],[34,34],[86,101,99,116,111,114,95,95,88,88,88],[67,77,95],[34,99,34],[59],[66,79,95],[50,49,52,55,52,56,51,54,52,57],[78],[58],[48],[66],[86,65,76,95],[50,53,54],[120],[48],[34,111,102,102,34],[45,49],[34,111,110,34],[59],[86,65,76,95],[49],[121],[59]]
def MF:List (List UInt8):=[[],[59],[120],[66,79,95],[34,116,34],[53],[45,53],[49,46,53],[64,48,43],[58],[77],[109,48,48,55],[109,49,56,52,52,54,55,52,52,48,55,51,55,48,57,53,53,49,54,49,54],[67,77,95,32,59],[86,69,82,83,73,79,78],[66,85,95],[83,71,95],[49,101,57,57],[44],[52,50,57,52,57,54,55,50,57,54],[50,49,52,55,52,56,51,54,52,56]]
theorem Jj:∀ x∈dB,x.length≤1000:=ah
theorem aew:∀ x∈MF,x.length≤1000:=ah
theorem Q9 (l:List (List UInt8)) (n:Nat) (hn:n=l.length) (hl:l.length≤1000) (hx:∀ x∈l,x.length≤1000) (a:Option Addr) (cap:Nat) (w:World) (hs:bA w dr 1 a cap l) :
  Calls prog 14 #[.slice a n cap] w fun e w'=>e=.returned (.string ⟨(il l).toArray⟩)∧Below w.heap.size w w':=by
 subst hn;have HS:=Qh hs;have HX:=Qh hx;clear hs hx;go_enter func14,ntmps14
 go_wp2_with fail;go_loopw [3,4] (fun s x wr=>∃ i:Nat,i≤l.length∧x=.int .i64 (i:Nat)∧s=.string ⟨(il (l.take i)).toArray⟩∧Below w.heap.size w wr) (fun _ x _=>l.length - (intOf x).toNat)
 case atStart=>exact UZ
 case round=>
  obtain⟨i,hi,rfl,rfl,hb⟩:=hrel;by_cases hlt:(i:Int) < l.length
  ·have a8:i < l.length:=ae;obtain⟨b,o,rfl,-,hc⟩:=bA.cells (HS.o.keep hb af) (fun _=>rfl) ah a8;have f:=hc 0 ah;rw[Nat.mul_one,q7,show(dr l[i])[0]? = some (.string ⟨l[i].toArray⟩)from rfl]at f;have hJ:=Qh (aml a8);have kJ:=aev (l:=l.take i) (fun x hx=>HX.o x (IE hx));rw[uC]at kJ;have hl2:=HX.o l[i] (gU a8);have hl3:(il (l.take i)).length≤1001000:=ae;generalize hX:l[i]=X at *;generalize hS:il (l.take i)=S at *;have hc1:=oH S X;have hc2:=oH (S++X) [32];clear hc kJ hX hS;go_wp2_with fail;go_roundw;case rel=>exact⟨i+1,ae,bL,by rw[hJ.o];simp,hb⟩
   case measure=>exact bY
  ·have jV:i=l.length:=ae;subst jV;rw[vN]at *;exact CV
theorem amm (w:World) :
  Calls prog 12 #[] w fun e w'=>e=.returned (.slice (some ⟨w.heap.size,0,none⟩) 75 75)∧bA w' dr 1 (some ⟨w.heap.size,0,none⟩) 75 dB∧Below w.heap.size w w':=by
 have rA:=Qh (bA.lit w dr 1 (fun _=>rfl) dB #[.string ⟨#[86,69,82,83,73,79,78]⟩,.string ⟨#[34,49,34]⟩,.string ⟨#[66,85,95]⟩,.string ⟨#[58]⟩,.string ⟨#[65]⟩,.string ⟨#[66]⟩,.string ⟨#[66,79,95]⟩,.string ⟨#[50,53,54]⟩,.string ⟨#[77]⟩,.string ⟨#[58]⟩,.string ⟨#[56]⟩,.string ⟨#[65]⟩,.string ⟨#[83,71,95]⟩,.string ⟨#[120]⟩,.string ⟨#[77]⟩,.string ⟨#[58]⟩,.string ⟨#[55]⟩,.string ⟨#[124]⟩,.string ⟨#[52]⟩,.string ⟨#[64,48,45]⟩,.string ⟨#[40]⟩,.string ⟨#[48,46,53]⟩,.string ⟨#[44]⟩,.string ⟨#[45,52,48]⟩,.string ⟨#[41]⟩,.string ⟨#[91]⟩,.string ⟨#[45,49,101,50]⟩,.string ⟨#[124]⟩,.string ⟨#[56,55,46,53]⟩,.string ⟨#[93]⟩,.string ⟨#[34,107,109,47,104,34]⟩,.string ⟨#[65]⟩,.string ⟨#[44]⟩,.string ⟨#[66]⟩,.string ⟨#[83,71,95]⟩,.string ⟨#[121]⟩,.string ⟨#[109,49,50]⟩,.string ⟨#[58]⟩,.string ⟨#[56]⟩,.string ⟨#[124]⟩,.string ⟨#[56]⟩,.string ⟨#[64,49,43]⟩,.string ⟨#[40]⟩,.string ⟨#[49]⟩,.string ⟨#[44]⟩,.string ⟨#[48]⟩,.string ⟨#[41]⟩,.string ⟨#[91]⟩,.string ⟨#[48]⟩,.string ⟨#[124]⟩,.string ⟨#[48]⟩,.string ⟨#[93]⟩,.string ⟨#[34,34]⟩,.string ⟨#[86,101,99,116,111,114,95,95,88,88,88]⟩,.string ⟨#[67,77,95]⟩,.string ⟨#[34,99,34]⟩,.string ⟨#[59]⟩,.string ⟨#[66,79,95]⟩,.string ⟨#[50,49,52,55,52,56,51,54,52,57]⟩,.string ⟨#[78]⟩,.string ⟨#[58]⟩,.string ⟨#[48]⟩,.string ⟨#[66]⟩,.string ⟨#[86,65,76,95]⟩,.string ⟨#[50,53,54]⟩,.string ⟨#[120]⟩,.string ⟨#[48]⟩,.string ⟨#[34,111,102,102,34]⟩,.string ⟨#[45,49]⟩,.string ⟨#[34,111,110,34]⟩,.string ⟨#[59]⟩,.string ⟨#[86,65,76,95]⟩,.string ⟨#[49]⟩,.string ⟨#[121]⟩,.string ⟨#[59]⟩] 9 75 rfl rfl ah);have dS:=Qh ((aC w.heap.size w).alloc af (.cells #[.string ⟨#[86,69,82,83,73,79,78]⟩,.string ⟨#[34,49,34]⟩,.string ⟨#[66,85,95]⟩,.string ⟨#[58]⟩,.string ⟨#[65]⟩,.string ⟨#[66]⟩,.string ⟨#[66,79,95]⟩,.string ⟨#[50,53,54]⟩,.string ⟨#[77]⟩,.string ⟨#[58]⟩,.string ⟨#[56]⟩,.string ⟨#[65]⟩,.string ⟨#[83,71,95]⟩,.string ⟨#[120]⟩,.string ⟨#[77]⟩,.string ⟨#[58]⟩,.string ⟨#[55]⟩,.string ⟨#[124]⟩,.string ⟨#[52]⟩,.string ⟨#[64,48,45]⟩,.string ⟨#[40]⟩,.string ⟨#[48,46,53]⟩,.string ⟨#[44]⟩,.string ⟨#[45,52,48]⟩,.string ⟨#[41]⟩,.string ⟨#[91]⟩,.string ⟨#[45,49,101,50]⟩,.string ⟨#[124]⟩,.string ⟨#[56,55,46,53]⟩,.string ⟨#[93]⟩,.string ⟨#[34,107,109,47,104,34]⟩,.string ⟨#[65]⟩,.string ⟨#[44]⟩,.string ⟨#[66]⟩,.string ⟨#[83,71,95]⟩,.string ⟨#[121]⟩,.string ⟨#[109,49,50]⟩,.string ⟨#[58]⟩,.string ⟨#[56]⟩,.string ⟨#[124]⟩,.string ⟨#[56]⟩,.string ⟨#[64,49,43]⟩,.string ⟨#[40]⟩,.string ⟨#[49]⟩,.string ⟨#[44]⟩,.string ⟨#[48]⟩,.string ⟨#[41]⟩,.string ⟨#[91]⟩,.string ⟨#[48]⟩,.string ⟨#[124]⟩,.string ⟨#[48]⟩,.string ⟨#[93]⟩,.string ⟨#[34,34]⟩,.string ⟨#[86,101,99,116,111,114,95,95,88,88,88]⟩,.string ⟨#[67,77,95]⟩,.string ⟨#[34,99,34]⟩,.string ⟨#[59]⟩,.string ⟨#[66,79,95]⟩,.string ⟨#[50,49,52,55,52,56,51,54,52,57]⟩,.string ⟨#[78]⟩,.string ⟨#[58]⟩,.string ⟨#[48]⟩,.string ⟨#[66]⟩,.string ⟨#[86,65,76,95]⟩,.string ⟨#[50,53,54]⟩,.string ⟨#[120]⟩,.string ⟨#[48]⟩,.string ⟨#[34,111,102,102,34]⟩,.string ⟨#[45,49]⟩,.string ⟨#[34,111,110,34]⟩,.string ⟨#[59]⟩,.string ⟨#[86,65,76,95]⟩,.string ⟨#[49]⟩,.string ⟨#[121]⟩,.string ⟨#[59]⟩] 9))
 go_enter func12,ntmps12
 go_wp2_with fail;go_ret;exact⟨rfl,rA.o,dS.o⟩
theorem yj (s:List UInt8) (hs:s.length≤1000) (no ak:Int) (h1:1≤no) (h2:no≤26) (hf:jX s=.bad (eH no 1 ak)) (w:World) (hW:eR w) :
  Calls prog 11 #[.string ⟨s.toArray⟩,.int .i64 no,.int .i64 ak] w fun e w'=>e=.returned (.bool true)∧Below w.heap.size w w':=by
 have cF:=Jk s ae w hW;rw[hf]at cF;have cA:=fun (W:World) (h:Below w.heap.size w W)=>ac1 no 1 ak h1 h2 W (hW.keep h).Jl
 clear hf hW;go_enter func11,ntmps11
 go_wp2_with fail;refine aQ cF ?_;intro w1 hb;have cA1:=cA _ hb;have HB:=Qh hb;clear cF cA hb;unfold eH at *;go_wp2_with fail;refine pO cA1 ?_;intro w2 hb aM;clear hb cA1;exact abX
def eP (a b:List UInt8):Nat→List UInt8
 | 0=>a
 | n+1=>eP a b n++b
theorem aiO (a b:List UInt8) (n:Nat):(eP a b n).length=a.length+n*b.length:=by
 induction n with
 | zero=>simp[eP]
 | succ n ih=>rw[eP,ey,ih,Nat.succ_mul];omega
def D4 (nm:List UInt8):List (List UInt8):=[([66,85,95,58,32]++nm),(([66,85,95,58,32]++nm)++[110]),(([66,85,95,58,32,66,79,95,32,49,32]++nm)++[110,58,32,56,32,65]),(([66,85,95,58,32,66,79,95,32,49,32,77,58,32,56,32]++nm)++[110]),(([66,85,95,58,32,86,65,76,95,32,49,32]++nm)++[110,32,59]),[66,85,95,58,32,66,79,95,32,49,32,77,58,32,50,49,52,55,52,56,51,54,52,56,32,65],[66,85,95,58,32,66,79,95,32,49,32,77,58,32,50,49,52,55,52,56,51,54,52,55,32,65],[66,85,95,58,32,66,79,95,32,45,49,32,77,58,32,56,32,65],[66,85,95,58,32,66,79,95,32,43,49,32,77,58,32,56,32,65],[66,85,95,58,32,66,79,95,32,52,50,57,52,57,54,55,50,57,53,32,77,58,32,56,32,65],[66,85,95,58,32,86,65,76,95,32,49,32,120,32,45,57,50,50,51,51,55,50,48,51,54,56,53,52,55,55,53,56,48,56,32,34,34,32,45,57,50,50,51,51,55,50,48,51,54,56,53,52,55,55,53,56,48,57,32,34,34,32,59],[66,85,95,58,32,86,65,76,95,32,49,32,120,32,45,48,32,34,34,32,59],[66,85,95,58,32,86,65,76,95,32,49,32,120,32,43,49,32,34,34,32,59],[67,77,95],[67,77,95,32,59],[67,77,95,32,66,85,95,58],[67,77,95,32,59,32,66,85,95,58,32,67,77,95,32,59,32,67,77,95],[86,69,82,83,73,79,78],[86,69,82,83,73,79,78,32,120],[86,69,82,83,73,79,78,32,34,34,32,86,69,82,83,73,79,78,32,34,34,32,66,85,95,58],[66,85,95,58,32,120,32,59],[66,85,95,58,32,1],[66,85,95,58,32,195,169],[66,85,95,58,32,49,120],[66,85,95,58,10,66,79,95,32,49,32,77,58,32,56,10,34,34]]
theorem aez:∀ x∈D4 (eP [] [110] 64),x.length≤1000:=ah
theorem aeA {w:World} {g cap:Nat} {l:List (List UInt8)} (hs:bA w dr 1 (some ⟨g,0,none⟩) cap l) {k:Nat} (hk:k < l.length):w.cell? ⟨g,k,none⟩=some (.string ⟨l[k].toArray⟩):=by
 obtain⟨b,o,e,-,h⟩:=bA.cells hs (fun _=>rfl) ah hk;exact acp
theorem amy (cF:∀ s:List UInt8,s.length≤200000→∀ W,eR W→Calls prog 13 #[.string ⟨s.toArray⟩] W fun e w'=>e=.returned (.bool true)∧Below W.heap.size W w')
  (cP:∀ s∈D4 (eP [] [110] 64),∀ W,eR W→Calls prog 18 #[.string ⟨s.toArray⟩] W fun e w'=>e=.returned (.bool true)∧Below W.heap.size W w') (w:World) (hW:eR w) :
  Calls prog 6 #[] w fun e w'=>e=.returned (.bool true)∧Below w.heap.size w w':=by
 have HW:=Qh (fun W (h:Below w.heap.size w W)=>hW.keep h);clear hW;go_enter func6,ntmps6
 go_wp2_with fail;go_loopw [1,2] (fun s x wr=>∃ i:Nat,i≤64∧x=.int .i64 (i:Nat)∧s=.string ⟨(eP [] [110] i).toArray⟩∧Below w.heap.size w wr) (fun _ x _=>64 - (intOf x).toNat)
 case atStart=>exact UZ
 case round=>
  obtain⟨i,hi,rfl,rfl,hb⟩:=hrel;by_cases hlt:i < 64
  ·have Gb:decide ((i:Int) < 64)=true:=fy ae;have hc1:=oH (eP [] [110] i) [110];have kJ:(eP [] [110] i).length≤64:=Lx;go_wp2_with fail;go_roundw;case rel=>exact⟨i+1,ae,bL,by rw[eP],hb⟩
   case measure=>exact bY
  ·have Gb:decide ((i:Int) < 64)=false:=dU ae;have hN:eP [] [110] 64=eP [] [110] i:=(by rw[show i=64 by omega]);have hw0:=aez;have zL:(eP [] [110] 64).length≤64:=ah;rw[hN]at cP hw0 zL;have HWL:=Qh hw0;clear hN hw0;generalize eP [] [110] i=nm at *;obtain⟨c0,hc0⟩:∃ c,([66,85,95,58,32]:List UInt8)++nm=c:=⟨_,rfl⟩
   have hk0:=oH [66,85,95,58,32] nm;rw[hc0]at hk0;have hl0:c0.length≤200+100*0:=(by rw[← hc0];simp only[ey,dz,lF];omega);have oX:=Qh hc0;clear hc0;obtain⟨c1,hc1⟩:∃ c,(c0:List UInt8)++[110]=c:=⟨_,rfl⟩
   have nM:=oH c0 [110];rw[hc1]at nM;have kJ:c1.length≤200+100*1:=(by rw[← hc1];simp only[ey,dz,lF];omega);have oI:=Qh hc1;clear hc1;obtain⟨c2,hc2⟩:∃ c,([66,85,95,58,32,66,79,95,32,49,32]:List UInt8)++nm=c:=⟨_,rfl⟩
   have hk2:=oH [66,85,95,58,32,66,79,95,32,49,32] nm;rw[hc2]at hk2;have hl2:c2.length≤200+100*2:=(by rw[← hc2];simp only[ey,dz,lF];omega);have bo:=Qh hc2;clear hc2;obtain⟨c3,hc3⟩:∃ c,(c2:List UInt8)++[110,58,32,56,32,65]=c:=⟨_,rfl⟩
   have hk3:=oH c2 [110,58,32,56,32,65];rw[hc3]at hk3;have hl3:c3.length≤200+100*3:=(by rw[← hc3];simp only[ey,dz,lF];omega);have sS:=Qh hc3;clear hc3;obtain⟨c4,hc4⟩:∃ c,([66,85,95,58,32,66,79,95,32,49,32,77,58,32,56,32]:List UInt8)++nm=c:=⟨_,rfl⟩
   have hk4:=oH [66,85,95,58,32,66,79,95,32,49,32,77,58,32,56,32] nm;rw[hc4]at hk4;have hl4:c4.length≤200+100*4:=(by rw[← hc4];simp only[ey,dz,lF];omega);have wY:=Qh hc4;clear hc4;obtain⟨c5,hc5⟩:∃ c,(c4:List UInt8)++[110]=c:=⟨_,rfl⟩
   have hk5:=oH c4 [110];rw[hc5]at hk5;have WA:c5.length≤200+100*5:=(by rw[← hc5];simp only[ey,dz,lF];omega);have fF:=Qh hc5;clear hc5;obtain⟨c6,Rc⟩:∃ c,([66,85,95,58,32,86,65,76,95,32,49,32]:List UInt8)++nm=c:=⟨_,rfl⟩
   have Jo:=oH [66,85,95,58,32,86,65,76,95,32,49,32] nm;rw[Rc]at Jo;have hl6:c6.length≤200+100*6:=(by rw[← Rc];simp only[ey,dz,lF];omega);have eU:=Qh Rc;clear Rc;obtain⟨c7,Jp⟩:∃ c,(c6:List UInt8)++[110,32,59]=c:=⟨_,rfl⟩
   have Jq:=oH c6 [110,32,59];rw[Jp]at Jq;have hl7:c7.length≤200+100*7:=(by rw[← Jp];simp only[ey,dz,lF];omega);have D5:=Qh Jp;clear Jp;have hwl:[c0,c1,c3,c5,c7,[66,85,95,58,32,66,79,95,32,49,32,77,58,32,50,49,52,55,52,56,51,54,52,56,32,65],[66,85,95,58,32,66,79,95,32,49,32,77,58,32,50,49,52,55,52,56,51,54,52,55,32,65],[66,85,95,58,32,66,79,95,32,45,49,32,77,58,32,56,32,65],[66,85,95,58,32,66,79,95,32,43,49,32,77,58,32,56,32,65],[66,85,95,58,32,66,79,95,32,52,50,57,52,57,54,55,50,57,53,32,77,58,32,56,32,65],[66,85,95,58,32,86,65,76,95,32,49,32,120,32,45,57,50,50,51,51,55,50,48,51,54,56,53,52,55,55,53,56,48,56,32,34,34,32,45,57,50,50,51,51,55,50,48,51,54,56,53,52,55,55,53,56,48,57,32,34,34,32,59],[66,85,95,58,32,86,65,76,95,32,49,32,120,32,45,48,32,34,34,32,59],[66,85,95,58,32,86,65,76,95,32,49,32,120,32,43,49,32,34,34,32,59],[67,77,95],[67,77,95,32,59],[67,77,95,32,66,85,95,58],[67,77,95,32,59,32,66,85,95,58,32,67,77,95,32,59,32,67,77,95],[86,69,82,83,73,79,78],[86,69,82,83,73,79,78,32,120],[86,69,82,83,73,79,78,32,34,34,32,86,69,82,83,73,79,78,32,34,34,32,66,85,95,58],[66,85,95,58,32,120,32,59],[66,85,95,58,32,1],[66,85,95,58,32,195,169],[66,85,95,58,32,49,120],[66,85,95,58,10,66,79,95,32,49,32,77,58,32,56,10,34,34]]=D4 nm:=by
    rw[← D5.o,← eU.o,← fF.o,← wY.o,← sS.o,← bo.o,← oI.o,← oX.o];rfl
   have dC:=(aC wr.heap.size wr).alloc af (.cells #[.string ⟨c0.toArray⟩,.string ⟨c1.toArray⟩,.string ⟨c3.toArray⟩,.string ⟨c5.toArray⟩,.string ⟨c7.toArray⟩,.string ⟨#[66,85,95,58,32,66,79,95,32,49,32,77,58,32,50,49,52,55,52,56,51,54,52,56,32,65]⟩,.string ⟨#[66,85,95,58,32,66,79,95,32,49,32,77,58,32,50,49,52,55,52,56,51,54,52,55,32,65]⟩,.string ⟨#[66,85,95,58,32,66,79,95,32,45,49,32,77,58,32,56,32,65]⟩,.string ⟨#[66,85,95,58,32,66,79,95,32,43,49,32,77,58,32,56,32,65]⟩,.string ⟨#[66,85,95,58,32,66,79,95,32,52,50,57,52,57,54,55,50,57,53,32,77,58,32,56,32,65]⟩,.string ⟨#[66,85,95,58,32,86,65,76,95,32,49,32,120,32,45,57,50,50,51,51,55,50,48,51,54,56,53,52,55,55,53,56,48,56,32,34,34,32,45,57,50,50,51,51,55,50,48,51,54,56,53,52,55,55,53,56,48,57,32,34,34,32,59]⟩,.string ⟨#[66,85,95,58,32,86,65,76,95,32,49,32,120,32,45,48,32,34,34,32,59]⟩,.string ⟨#[66,85,95,58,32,86,65,76,95,32,49,32,120,32,43,49,32,34,34,32,59]⟩,.string ⟨#[67,77,95]⟩,.string ⟨#[67,77,95,32,59]⟩,.string ⟨#[67,77,95,32,66,85,95,58]⟩,.string ⟨#[67,77,95,32,59,32,66,85,95,58,32,67,77,95,32,59,32,67,77,95]⟩,.string ⟨#[86,69,82,83,73,79,78]⟩,.string ⟨#[86,69,82,83,73,79,78,32,120]⟩,.string ⟨#[86,69,82,83,73,79,78,32,34,34,32,86,69,82,83,73,79,78,32,34,34,32,66,85,95,58]⟩,.string ⟨#[66,85,95,58,32,120,32,59]⟩,.string ⟨#[66,85,95,58,32,1]⟩,.string ⟨#[66,85,95,58,32,195,169]⟩,.string ⟨#[66,85,95,58,32,49,120]⟩,.string ⟨#[66,85,95,58,10,66,79,95,32,49,32,77,58,32,56,10,34,34]⟩] 9);have HS:=Qh (bA.lit wr dr 1 (fun _=>rfl) [c0,c1,c3,c5,c7,[66,85,95,58,32,66,79,95,32,49,32,77,58,32,50,49,52,55,52,56,51,54,52,56,32,65],[66,85,95,58,32,66,79,95,32,49,32,77,58,32,50,49,52,55,52,56,51,54,52,55,32,65],[66,85,95,58,32,66,79,95,32,45,49,32,77,58,32,56,32,65],[66,85,95,58,32,66,79,95,32,43,49,32,77,58,32,56,32,65],[66,85,95,58,32,66,79,95,32,52,50,57,52,57,54,55,50,57,53,32,77,58,32,56,32,65],[66,85,95,58,32,86,65,76,95,32,49,32,120,32,45,57,50,50,51,51,55,50,48,51,54,56,53,52,55,55,53,56,48,56,32,34,34,32,45,57,50,50,51,51,55,50,48,51,54,56,53,52,55,55,53,56,48,57,32,34,34,32,59],[66,85,95,58,32,86,65,76,95,32,49,32,120,32,45,48,32,34,34,32,59],[66,85,95,58,32,86,65,76,95,32,49,32,120,32,43,49,32,34,34,32,59],[67,77,95],[67,77,95,32,59],[67,77,95,32,66,85,95,58],[67,77,95,32,59,32,66,85,95,58,32,67,77,95,32,59,32,67,77,95],[86,69,82,83,73,79,78],[86,69,82,83,73,79,78,32,120],[86,69,82,83,73,79,78,32,34,34,32,86,69,82,83,73,79,78,32,34,34,32,66,85,95,58],[66,85,95,58,32,120,32,59],[66,85,95,58,32,1],[66,85,95,58,32,195,169],[66,85,95,58,32,49,120],[66,85,95,58,10,66,79,95,32,49,32,77,58,32,56,10,34,34]] #[.string ⟨c0.toArray⟩,.string ⟨c1.toArray⟩,.string ⟨c3.toArray⟩,.string ⟨c5.toArray⟩,.string ⟨c7.toArray⟩,.string ⟨#[66,85,95,58,32,66,79,95,32,49,32,77,58,32,50,49,52,55,52,56,51,54,52,56,32,65]⟩,.string ⟨#[66,85,95,58,32,66,79,95,32,49,32,77,58,32,50,49,52,55,52,56,51,54,52,55,32,65]⟩,.string ⟨#[66,85,95,58,32,66,79,95,32,45,49,32,77,58,32,56,32,65]⟩,.string ⟨#[66,85,95,58,32,66,79,95,32,43,49,32,77,58,32,56,32,65]⟩,.string ⟨#[66,85,95,58,32,66,79,95,32,52,50,57,52,57,54,55,50,57,53,32,77,58,32,56,32,65]⟩,.string ⟨#[66,85,95,58,32,86,65,76,95,32,49,32,120,32,45,57,50,50,51,51,55,50,48,51,54,56,53,52,55,55,53,56,48,56,32,34,34,32,45,57,50,50,51,51,55,50,48,51,54,56,53,52,55,55,53,56,48,57,32,34,34,32,59]⟩,.string ⟨#[66,85,95,58,32,86,65,76,95,32,49,32,120,32,45,48,32,34,34,32,59]⟩,.string ⟨#[66,85,95,58,32,86,65,76,95,32,49,32,120,32,43,49,32,34,34,32,59]⟩,.string ⟨#[67,77,95]⟩,.string ⟨#[67,77,95,32,59]⟩,.string ⟨#[67,77,95,32,66,85,95,58]⟩,.string ⟨#[67,77,95,32,59,32,66,85,95,58,32,67,77,95,32,59,32,67,77,95]⟩,.string ⟨#[86,69,82,83,73,79,78]⟩,.string ⟨#[86,69,82,83,73,79,78,32,120]⟩,.string ⟨#[86,69,82,83,73,79,78,32,34,34,32,86,69,82,83,73,79,78,32,34,34,32,66,85,95,58]⟩,.string ⟨#[66,85,95,58,32,120,32,59]⟩,.string ⟨#[66,85,95,58,32,1]⟩,.string ⟨#[66,85,95,58,32,195,169]⟩,.string ⟨#[66,85,95,58,32,49,120]⟩,.string ⟨#[66,85,95,58,10,66,79,95,32,49,32,77,58,32,56,10,34,34]⟩] 9 25 rfl rfl ah)
   have HB:=Qh (aH hb dC af);clear hb dC;go_upto_region 7 with fail
   generalize wr.alloc (.cells #[.string ⟨c0.toArray⟩,.string ⟨c1.toArray⟩,.string ⟨c3.toArray⟩,.string ⟨c5.toArray⟩,.string ⟨c7.toArray⟩,.string ⟨#[66,85,95,58,32,66,79,95,32,49,32,77,58,32,50,49,52,55,52,56,51,54,52,56,32,65]⟩,.string ⟨#[66,85,95,58,32,66,79,95,32,49,32,77,58,32,50,49,52,55,52,56,51,54,52,55,32,65]⟩,.string ⟨#[66,85,95,58,32,66,79,95,32,45,49,32,77,58,32,56,32,65]⟩,.string ⟨#[66,85,95,58,32,66,79,95,32,43,49,32,77,58,32,56,32,65]⟩,.string ⟨#[66,85,95,58,32,66,79,95,32,52,50,57,52,57,54,55,50,57,53,32,77,58,32,56,32,65]⟩,.string ⟨#[66,85,95,58,32,86,65,76,95,32,49,32,120,32,45,57,50,50,51,51,55,50,48,51,54,56,53,52,55,55,53,56,48,56,32,34,34,32,45,57,50,50,51,51,55,50,48,51,54,56,53,52,55,55,53,56,48,57,32,34,34,32,59]⟩,.string ⟨#[66,85,95,58,32,86,65,76,95,32,49,32,120,32,45,48,32,34,34,32,59]⟩,.string ⟨#[66,85,95,58,32,86,65,76,95,32,49,32,120,32,43,49,32,34,34,32,59]⟩,.string ⟨#[67,77,95]⟩,.string ⟨#[67,77,95,32,59]⟩,.string ⟨#[67,77,95,32,66,85,95,58]⟩,.string ⟨#[67,77,95,32,59,32,66,85,95,58,32,67,77,95,32,59,32,67,77,95]⟩,.string ⟨#[86,69,82,83,73,79,78]⟩,.string ⟨#[86,69,82,83,73,79,78,32,120]⟩,.string ⟨#[86,69,82,83,73,79,78,32,34,34,32,86,69,82,83,73,79,78,32,34,34,32,66,85,95,58]⟩,.string ⟨#[66,85,95,58,32,120,32,59]⟩,.string ⟨#[66,85,95,58,32,1]⟩,.string ⟨#[66,85,95,58,32,195,169]⟩,.string ⟨#[66,85,95,58,32,49,120]⟩,.string ⟨#[66,85,95,58,10,66,79,95,32,49,32,77,58,32,56,10,34,34]⟩] 9)=w2 at *;generalize wr.heap.size=g2 at *;rw[hwl]at HS;clear hwl hk0 nM hk2 hk3 hk4 hk5 Jo Jq oX oI bo sS wY fF eU D5;go_wp2_with fail;go_loopw [4] (fun x wr=>∃ i:Nat,i≤25∧x=.int .i64 (i:Nat)∧Below w2.heap.size w2 wr) (fun x _=>25 - (intOf x).toNat)
   case atStart=>exact EY
   case round=>
    obtain⟨k,hk,rfl,hb⟩:=hrel;by_cases hlt2:k < 25
    ·have B8:decide ((k:Int) < 25)=true:=fy ae;have B9:k < (D4 nm).length:=hlt2;have f:=aeA (HS.o.keep hb af) B9;have h1:=HWL.o _ (gU B9);have c1:=cF (D4 nm)[k] ae _ (HW.o _ (aH HB.o hb af));have c2:=cP (D4 nm)[k] (gU B9);generalize (D4 nm)[k]=X at *;have aM:=Qh hb;clear hb h1;go_wp2_with fail;refine Lf c1 ?_;intro w3 hb bT;have f2:=aeA (HS.o.keep bT.o af) B9;have f3:w3.cell? ⟨g2,k,none⟩=some (.string ⟨X.toArray⟩):=(by rw[← f,dx (by rw[f]) hb,f]);have c3:=c2 _ (HW.o _ (aH HB.o bT.o af));clear f2 c1 c2 hb aM f;go_wp2_with fail;refine aQ c3 ?_;intro w4 hb;have fe:=Qh (aH bT.o hb af);clear c3 hb bT f3;go_wp2_with fail;go_roundw;case rel=>exact⟨k+1,ae,bL,fe.o⟩
     case measure=>exact bY
    ·have B8:decide ((k:Int) < 25)=false:=dU ae;have aM:=Qh (aH HB.o hb af);clear hb HB HS cP HWL;go_wp2_with fail;go_loopw [5,6] (fun s x wr=>∃ i:Nat,i≤100∧x=.int .i64 (i:Nat)∧s=.string ⟨(eP [49] [48] i).toArray⟩∧Below w.heap.size w wr) (fun _ x _=>100 - (intOf x).toNat)
     case atStart=>exact⟨0,bV _,rfl,rfl,aM.o⟩
     case round=>
      clear aM;obtain⟨i,hi,rfl,rfl,hb⟩:=hrel;by_cases hlt3:i < 100
      ·have MI:decide ((i:Int) < 100)=true:=fy ae;have hc1:=oH (eP [49] [48] i) [48];have kJ:(eP [49] [48] i).length≤200:=Lx;have hc2:=oH [66,85,95,58,32,66,79,95,32,49,32,77,58,32,56,32,65,32,83,71,95,32,120,32,58,32,48,124,56,64,49,43,32,40] (eP [49] [48] i);have hl2:([66,85,95,58,32,66,79,95,32,49,32,77,58,32,56,32,65,32,83,71,95,32,120,32,58,32,48,124,56,64,49,43,32,40]++eP [49] [48] i).length≤400:=xh;generalize [66,85,95,58,32,66,79,95,32,49,32,77,58,32,56,32,65,32,83,71,95,32,120,32,58,32,48,124,56,64,49,43,32,40]++eP [49] [48] i=S2 at hc2 hl2;have hc3:=oH S2 [44,48,41,32,91,48,124,48,93,32,34,34,32,65];have hl3:(S2++[44,48,41,32,91,48,124,48,93,32,34,34,32,65]).length≤600:=xh;generalize S2++[44,48,41,32,91,48,124,48,93,32,34,34,32,65]=S3 at hc3 hl3;have c1:=cF S3 ae _ (HW.o _ hb);have HB:=Qh hb;clear hb;go_wp2_with fail;refine pO c1 ?_;intro w3 hb bT;clear hb c1 HB;go_wp2_with fail;go_roundw;case rel=>exact⟨i+1,ae,bL,by rw[eP],bT.o⟩
       case measure=>exact bY
      ·have MI:decide ((i:Int) < 100)=false:=dU ae;have HB:=Qh hb;clear hb;exact ui
open Go.RowKit
theorem ai7 {α:Type} {en:α→List Value} {P:Program} {w:World} {t ty e:TypeId} {size bytes:Nat} (T:eO P t e size bytes)
  {base:Nat} {v:Value} (xs ys:List α) (hen:∀ y,(en y).length=size) (hone:∀ y∈ys,∀ u∈en y,u.oneCell' = true) {ad:Option Addr} {cap:Nat} (LO:bA w en size ad cap ys)
  (hown:aG w base e size en v xs) (hbase:base≤w.heap.size) (hbound:(xs.length+ys.length)*bytes≤140737488355328) :
  ∃ v' w',(Builtin.append_ #[t,t] ty #[v,.slice ad ys.length cap]).run P w=.ok v' w'∧aG w' base e size en v' (xs++ys)∧w.grownBy w' v.ownBlock:=by
 obtain⟨hu,⟨i,z,hi,hz,h1,h2,h3⟩,hp,oh⟩:=T;cases ys with
 | nil=>
  obtain⟨a0,c0,rfl,hs0⟩:=hown.shape;refine⟨_,_,run_append_nothing w t t ty e i hu hi a0 xs.length c0 hs0.le _ ?_,by rw[pT];exact hown,World.grownBy.refl _ _⟩;cases ad with
  | none=>exact Src.ofNil w hu cap
  | some p=>exact Src.ofSlice w hu p 0 cap [] aB aB aB
 | cons y ys=>
  obtain⟨b,o,rfl,-⟩:=Sl.at' LO 0 (by rw[Sl.len LO];simp only[dz];exact Nat.mul_pos ae hp);have hn:xs.length+(y::ys).length≤maxLen:=by
   have:(xs.length+(y::ys).length)*1≤(xs.length+(y::ys).length)*bytes:=zw _ oh;unfold maxLen;omega
  have hnews:∀ j u,((y::ys).flatMap en)[j]? = some u→w.cell? ((⟨b,o,none⟩:Addr).add j)=some u:=by
   intro j u hu;have hj:j < ((y::ys).flatMap en).length:=(zt.1 hu).1;obtain⟨b,off,e1,e2⟩:=Sl.at' LO j hj;cases e1
   rw[Addr.add_lit,e2];exact hu
  have Vo:∀ u∈(y::ys).flatMap en,u.oneCell' = true:=fun u hu=>by
   obtain⟨y,hm,hy⟩:=List.mem_flatMap.1 hu;exact hone y hm u hy
  obtain⟨v',w',hr,g1,g2,_⟩:=run_append_own (P:=P) w base t ty e i z size bytes hu hi hz h1 h2 h3 hp v xs.length (xs.flatMap en) hown ⟨b,o,none⟩ (y::ys).length cap ((y::ys).flatMap en) (by rw[o7 hen]) hnews Vo hn hbound hbase;refine⟨v',w',hr,?_,g2⟩;refine Lk ?_;exact g1
theorem acy {α:Type} {en:α→List Value} {P:Program} {w0 wr:World} {ops:Array Oper} {rest:List Oper} {o:Oper} {a:Act} {Q:Exit→Act→World→Prop} {s x:Operand} {t e:TypeId} {size bytes:Nat} (T:eO P t e size bytes)
  {base:Nat} {v:Value} (xs ys:List α) (hen:∀ y,(en y).length=size) (hone:∀ y∈ys,∀ u∈en y,u.oneCell' = true) {ad:Option Addr} {cap:Nat} (LO:bA wr en size ad cap ys)
  (hown:aG wr base e size en v xs) (bP:Below base w0 wr) (hbase:base≤w0.heap.size) (hbound:(xs.length+ys.length)*bytes≤140737488355328)
  (h:∀ v' w1,aG w1 base e size en v' (xs++ys)→Below base w0 w1→wr.grownBy w1 v.ownBlock→wpList P ops Q rest (a.put o.dst v') w1)
  (hgd:o.guard=none:=by rfl) (ho:o.op=.call { callee:=.builtin .append,args:=#[s,x],argTypes:=#[t,t] }:=by rfl)
  (hs0:a.eval s=v:=by rfl) (hx:a.eval x=.slice ad ys.length cap:=by rfl):wpList P ops Q (o::rest) a wr:=by
 have hsz:=bP.size;obtain⟨v',w',hr,g1,g2⟩:=ai7 (P:=P) (ty:=o.type) T xs ys hen hone LO hown ae hbound;refine wpList_plain hgd fun K hK=>?_
 unfold Oper.wp execOp;simp only[ho,resolve,invoke,builtin,rT,Sem.run_pure,Fu,List.map_toArray,zH,BC,hs0,hx,hr];exact hK _ _ (h v' w' g1 (bP.grown g2 ae (fun k hk=>(World.ownsRow.lt hown k hk).1)) g2)
theorem Wk {w:World} {g cap:Nat} {l:List (List UInt8)} (hs:bA w dr 1 (some ⟨g,0,none⟩) cap l) {k:Nat} (hk:k < l.length):w.cell? ⟨g,k,none⟩=some (.string ⟨l[k].toArray⟩):=by
 obtain⟨b,o,e,-,h⟩:=bA.cells hs (fun _=>rfl) ah hk;exact acp
theorem Wl {l:List (List UInt8)} (hl:l.length≤100) (h:∀ x∈l,x.length≤1000):(il l).length≤200000:=by
 have:=aev h;omega
theorem amn (cF:∀ s:List UInt8,s.length≤200000→∀ W,eR W→Calls prog 13 #[.string ⟨s.toArray⟩] W fun e w'=>e=.returned (.bool true)∧Below W.heap.size W w')
  (cC:∀ i:Nat,i < 6→∀ W,eR W→Calls prog 16 #[.string ⟨(il dB).toArray⟩,.int .i64 (i:Nat),.int .i64 (i:Nat)] W fun e w'=>e=.returned (.bool true)∧Below W.heap.size W w')
  (cA:∀ i:Nat,i < 6→∀ W,eR W→Calls prog 17 #[.string ⟨(il dB).toArray⟩,.int .i64 (i:Nat)] W fun e w'=>e=.returned (.bool true)∧Below W.heap.size W w')
  (cP:∀ W,eR W→Calls prog 18 #[.string ⟨(il dB).toArray⟩] W fun e w'=>e=.returned (.bool true)∧Below W.heap.size W w') (w:World) (hW:eR w) :
  Calls prog 5 #[] w fun e w'=>e=.returned (.bool true)∧Below w.heap.size w w':=by
 have HW:=Qh (fun W (h:Below w.heap.size w W)=>hW.keep h);clear hW;go_enter func5,ntmps5
 go_wp2_with fail;refine dF (amm _) ?_;intro w1 hs hb
 have dC:=(aC w1.heap.size w1).alloc af (.cells #[.string ⟨#[]⟩,.string ⟨#[59]⟩,.string ⟨#[120]⟩,.string ⟨#[66,79,95]⟩,.string ⟨#[34,116,34]⟩,.string ⟨#[53]⟩,.string ⟨#[45,53]⟩,.string ⟨#[49,46,53]⟩,.string ⟨#[64,48,43]⟩,.string ⟨#[58]⟩,.string ⟨#[77]⟩,.string ⟨#[109,48,48,55]⟩,.string ⟨#[109,49,56,52,52,54,55,52,52,48,55,51,55,48,57,53,53,49,54,49,54]⟩,.string ⟨#[67,77,95,32,59]⟩,.string ⟨#[86,69,82,83,73,79,78]⟩,.string ⟨#[66,85,95]⟩,.string ⟨#[83,71,95]⟩,.string ⟨#[49,101,57,57]⟩,.string ⟨#[44]⟩,.string ⟨#[52,50,57,52,57,54,55,50,57,54]⟩,.string ⟨#[50,49,52,55,52,56,51,54,52,56]⟩] 9);refine aY (bA.lit w1 dr 1 (fun _=>rfl) MF #[.string ⟨#[]⟩,.string ⟨#[59]⟩,.string ⟨#[120]⟩,.string ⟨#[66,79,95]⟩,.string ⟨#[34,116,34]⟩,.string ⟨#[53]⟩,.string ⟨#[45,53]⟩,.string ⟨#[49,46,53]⟩,.string ⟨#[64,48,43]⟩,.string ⟨#[58]⟩,.string ⟨#[77]⟩,.string ⟨#[109,48,48,55]⟩,.string ⟨#[109,49,56,52,52,54,55,52,52,48,55,51,55,48,57,53,53,49,54,49,54]⟩,.string ⟨#[67,77,95,32,59]⟩,.string ⟨#[86,69,82,83,73,79,78]⟩,.string ⟨#[66,85,95]⟩,.string ⟨#[83,71,95]⟩,.string ⟨#[49,101,57,57]⟩,.string ⟨#[44]⟩,.string ⟨#[52,50,57,52,57,54,55,50,57,54]⟩,.string ⟨#[50,49,52,55,52,56,51,54,52,56]⟩] 9 21 rfl rfl ah) (hs.keep dC af) (aH hb dC af) ?_;intro HO HS HB;clear hs hb dC;go_upto_region 3 with fail
 generalize w1.alloc (.cells #[.string ⟨#[]⟩,.string ⟨#[59]⟩,.string ⟨#[120]⟩,.string ⟨#[66,79,95]⟩,.string ⟨#[34,116,34]⟩,.string ⟨#[53]⟩,.string ⟨#[45,53]⟩,.string ⟨#[49,46,53]⟩,.string ⟨#[64,48,43]⟩,.string ⟨#[58]⟩,.string ⟨#[77]⟩,.string ⟨#[109,48,48,55]⟩,.string ⟨#[109,49,56,52,52,54,55,52,52,48,55,51,55,48,57,53,53,49,54,49,54]⟩,.string ⟨#[67,77,95,32,59]⟩,.string ⟨#[86,69,82,83,73,79,78]⟩,.string ⟨#[66,85,95]⟩,.string ⟨#[83,71,95]⟩,.string ⟨#[49,101,57,57]⟩,.string ⟨#[44]⟩,.string ⟨#[52,50,57,52,57,54,55,50,57,54]⟩,.string ⟨#[50,49,52,55,52,56,51,54,52,56]⟩] 9)=w2 at *;generalize w.heap.size=g1 at HS ⊢;generalize w1.heap.size=g2 at *;go_wp2_with fail;go_loopw [3,4,5,6] (fun x _ _ _ wr=>∃ i:Nat,i≤76∧x=.int .i64 (i:Nat)∧Below w2.heap.size w2 wr) (fun x _ _ _ _=>76 - (intOf x).toNat)
 case atStart=>exact EY
 case round=>
  obtain⟨i,hi,rfl,hb⟩:=hrel;by_cases hlt:i≤75
  ·have Gb:decide ((i:Int)≤75)=true:=fy ae;have hsw:=HS.o.keep hb af;have hW1:=HW.o _ (aH HB.o hb af);refine abH ?_;intro hpre B7;have cJ:=Q9 (dB.take i) i B7.symm ae (fun x hx=>Jj x (IE hx)) _ 75 wr hpre;have yl:=Wl (l:=dB.take i) ae (fun x hx=>Jj x (IE hx));have D3:=fun W h=>cF (il (dB.take i)) yl W h
   generalize il (dB.take i)=J at *;have HBw:=Qh (aH HB.o hb af);have aM:=Qh hb;clear hb hsw hpre B7 yl hW1;go_wp2_with fail;refine aQ cJ ?_;intro w3 hb;have hW3:=HW.o _ (aH HBw.o hb af);go_wp2_with fail;refine aQ (D3 _ hW3) ?_;intro w4 hb'
   have fe:=Qh (aH (aH aM.o hb af) hb' af);clear hb hb' hW3 cJ D3 HBw aM;go_wp2_with fail;go_loopw [4,5,6] (fun x _ _ wq=>∃ k:Nat,k≤21∧x=.int .i64 (k:Nat)∧Below w2.heap.size w2 wq) (fun x _ _ _=>21 - (intOf x).toNat)
   case atStart=>exact⟨0,bV _,rfl,fe.o⟩
   case round=>
    clear fe;obtain⟨k,hk,rfl,hb⟩:=hrel;by_cases hlt2:k < 21
    ·have B8:decide ((k:Int) < 21)=true:=fy ae;have B9:k < MF.length:=hlt2;have hsw:=HS.o.keep hb af;refine abH ?_;intro hpre B7;have c1:=QP dB 75 rfl (some ⟨g1,0,none⟩) 75 wr hsw ah;have c2:=fun W (h:bA W dr 1 (some ⟨g1,0,none⟩) 75 (dB.take i))=>QP (dB.take i) i B7.symm (some ⟨g1,0,none⟩) 75 W h ae
     have HPR:=Qh hpre;have ir:=Qh hb;clear hsw hpre hb;go_wp2_with fail;refine jH c1 ?_;intro wm vm Ra hb;obtain⟨gm,cm,Wm,-,-,-,-⟩:=Ra.block ah;replace Wm:vm=.slice (some ⟨gm,0,none⟩) 75 cm:=Wm;subst Wm;have hg5:w2.heap.size≤gm:=bQ ir.o.size (Ra.lt gm rfl).1;refine aY (HPR.o.keep hb af) (aH ir.o hb af) Ra ?_;intro amo mg HM;clear hb c1 HPR ir Ra;go_wp2_with fail;refine jH (c2 _ amo.o) ?_;intro wn vn hon cH
     have f:=Wk ((HO.o.keep mg.o af).keep cH af) B9;have BU:=((HS.o.keep mg.o af).keep cH af).P9 (fun _=>rfl) i (by show i≤75;exact hlt);generalize hX:MF[k]=X at *;have hXl:X.length≤1000:=(by rw[← hX];exact aew _ (gU B9));clear hX;go_wp2_with (at_builtin;go_loud (refine BK xJ (dB.take i) X hon cH af (by rw[B7];omega) ?_ (hone:=Bd)))
     intro vn1 wn1 Jm MG;have BU:=((HS.o.keep mg.o af).keep MG af).P9 (fun _=>rfl) i (by show i≤75;exact hlt);have fY:(dB.drop i).length=75 - i:=(by rw[e7];rfl);have lJ:((dB.take i++[X]).length+(dB.drop i).length)*16≤140737488355328:=(by rw[ey,B7,fY];simp;omega);obtain⟨an,cn,rfl,-⟩:=Jm.shape;have kJ:(dB.take i++[X]).length=i+1:=(by rw[ey,B7];rfl);rw[kJ]at Jm ⊢;clear hon cH f;by_cases Wn:75=i;case' pos=>
      have Ca:dB.drop i=[]:=pS.1 ae;have H75:=Qh Wn;have auV:(75=i)=True:=eq_true Wn;have auW:75 - i=0:=ae;clear Wn;have aex:bA wn1 dr 1 (some ⟨g1,0,none⟩) 0 ([]:List (List UInt8)):=⟨rfl,af,ah,(fun e=>sW),fun j hj=>by simp at hj⟩
      go_wp2_with (at_builtin;go_loud (refine acy xJ (dB.take i++[X]) [] (fun _=>rfl) (fun y hy=>by cases hy) aex Jm MG af (by rw[kJ];simp;omega) ?_))
      intro vn2 wn2 Cb Rb _;obtain⟨an,cn,rfl,-⟩:=Cb.shape;have hl2:(dB.take i++X::dB.drop i).length=i+1:=(by rw[ey,dz,B7,fY];have:=H75.o;omega);rw[kJ]at Cb ⊢;replace Cb:aG wn2 wm.heap.size 9 1 dr (.slice an (i+1) cn) (dB.take i++X::dB.drop i):=(by rw[Ca];exact Cb);clear BU Jm MG lJ aex;go_wp2_with fail
     case' neg=>
      have Wo:i < 75:=ae;rw[Nat.mul_one,kF]at BU;go_wp2_with (at_builtin;go_loud (refine acy xJ (dB.take i++[X]) (dB.drop i) (fun _=>rfl) (fun y _ u hu=>by rw[oY.1 hu];rfl) BU Jm MG af lJ ?_ (hx:=by rw[fY];first|rfl|simp)))
      intro vn2 wn2 Cb Rb _;obtain⟨an,cn,rfl,-⟩:=Cb.shape;have hl2:(dB.take i++X::dB.drop i).length=76:=(by rw[ey,dz,B7,fY];omega);rw[hl2]at Cb ⊢;clear BU Jm MG lJ;go_wp2_with fail
     all_goals
      have hmx:∀ x∈dB.take i++X::dB.drop i,x.length≤1000:=fun x hx=>by
       rcases uG.1 hx with hx|hx
       ·exact Jj x (IE hx)
       ·rcases nL.1 hx with rfl|hx
        ·exact hXl
        ·exact Jj x (List.mem_of_mem_drop hx)
      have cJ:=Q9 (dB.take i++X::dB.drop i) _ hl2.symm ae hmx _ _ _ Cb.sl.2;have yl:=Wl (l:=dB.take i++X::dB.drop i) ae hmx;have D3:=fun W h=>cF (il (dB.take i++X::dB.drop i)) yl W h
      generalize il (dB.take i++X::dB.drop i)=J2 at *;clear hmx yl Cb;refine aQ cJ ?_;intro w5 hb;have Cc:=aH Rb hb (by have:=Rb.size;omega);have MH:=HW.o _ (aH (aH HB.o mg.o af) Cc af);clear cJ hb Rb;go_wp2_with fail;refine aQ (D3 _ MH) ?_;intro w6 hb
      have nG:=Qh (aH Cc hb (by have:=Cc.size;omega));clear D3 hb Cc MH
     ·have Wo:i < 75:=ae;have hmk:=HM.o.keep nG.o af;have f:=Wk ((HO.o.keep mg.o af).keep nG.o af) B9;generalize hY:MF[k]=Y at *;have hYl:Y.length≤1000:=(by rw[← hY];exact aew _ (gU B9));have amp:decide ((i:Int) < 75)=true:=fy ae;have ff:=hmk.free i;have fc:=Wk hmk.sl.2 (k:=i) Wo;have hmo:=aG.Qz (xs:=dB) (fun x=>.string ⟨x.toArray⟩) (fun _=>rfl) hmk (k:=i) Y (show i < dB.length from Wo);have hb9:=(aH mg.o nG.o af).setCell (p:=⟨gm,i,none⟩) hg5 (.string ⟨Y.toArray⟩);have hmx:∀ x∈dB.set i Y,x.length≤1000:=fun x hx=>by
       rcases List.mem_or_eq_of_mem_set hx with hx|rfl
       ·exact Jj x hx
       ·exact hYl
      have cJ:=Q9 (dB.set i Y) 75 (by rw[kD];rfl) (by rw[kD];decide) hmx _ _ _ hmo.sl.2;have yl:=Wl (l:=dB.set i Y) (by rw[kD];decide) hmx;have D3:=fun W h=>cF (il (dB.set i Y)) yl W h
      generalize il (dB.set i Y)=J3 at *;clear hmx yl hmo hmk hY nG;go_wp2_with fail;refine aQ cJ ?_;intro w7 hb;have Cc:=aH hb9 hb af;have MH:=HW.o _ (aH HB.o Cc af);clear cJ hb hb9 f ff fc;go_wp2_with fail;refine aQ (D3 _ MH) ?_;intro w8 hb
      have FP:=Qh (aH Cc hb (by have:=Cc.size;omega));clear D3 hb Cc MH;go_wp2_with fail;go_roundw;case rel=>exact⟨k+1,ae,bL,FP.o⟩
      case measure=>exact bY
     ·have DF:=Qh (aH mg.o nG.o af);have amp:decide ((i:Int) < 75)=false:=dU (by have:=H75.o;omega);clear nG;go_wp2_with fail;go_roundw;case rel=>exact⟨k+1,ae,bL,DF.o⟩
      case measure=>exact bY
    ·have B8:decide ((k:Int) < 21)=false:=dU ae;have ir:=Qh hb;clear hb;go_wp2_with fail;go_roundw;case rel=>exact⟨i+1,ae,bL,ir.o⟩
     case measure=>exact bY
  ·have Gb:decide ((i:Int)≤75)=false:=dU ae;have cJ:=Q9 dB 75 rfl ah Jj _ 75 wr (HS.o.keep hb af);have bh:=aH HB.o hb af;generalize il dB=J4 at *;clear cF HB HS HO hb;go_wp2_with fail;refine aQ cJ ?_;intro w3 hb;have HB:=Qh (aH bh hb af);clear hb cJ bh;go_wp2_with fail;go_loopw [8] (fun x wr=>∃ i:Nat,i≤6∧x=.int .i64 (i:Nat)∧Below w.heap.size w wr) (fun x _=>6 - (intOf x).toNat)
   case atStart=>exact⟨0,bV _,rfl,HB.o⟩
   case round=>
    clear HB;obtain⟨j,hj,rfl,hb⟩:=hrel;by_cases hlt3:j < 6
    ·have MI:decide ((j:Int) < 6)=true:=fy ae;have c1:=cC j hlt3 _ (HW.o _ hb);have c2:=cA j hlt3;have HB:=Qh hb;clear hb;go_wp2_with fail;refine pO c1 ?_;intro w4 hb aM;have c3:=c2 _ (HW.o _ aM.o);clear hb c1 c2;go_wp2_with fail;refine Lf c3 ?_;intro w5 hb bT;clear hb c3;go_wp2_with fail;go_roundw;case rel=>exact⟨j+1,ae,bL,bT.o⟩
     case measure=>exact bY
    ·have MI:decide ((j:Int) < 6)=false:=dU ae;have c1:=cP _ (HW.o _ hb);have HB:=Qh hb;clear hb;go_wp2_with fail;refine pO c1 ?_;intro w4 hb aM;clear hb c1;exact abX
end Go.Proofs.YtfflljgnpfldfaaGreatDoor
