/-
  Contracts of the lists of texts that the statements lend: marks, copies with marks, the look whether they were kept.
-/
import Derived.Lib.AppendIntMem
import Derived.Test.YtfflljgnpfldfaaGreatDoorNatT
import Derived.Test.YtfflljgnpfldfaaGreatDoorLexB
import Derived.Test.YtfflljgnpfldfaaGreatDoorBaseC
import Derived.Lib.SmallJoins
set_option linter.all false
set_option maxHeartbeats 128000000
set_option maxRecDepth 100000
namespace Go.Proofs.YtfflljgnpfldfaaGreatDoor
open Go.Proofs.Tryz
open Go.RowKit Go.Sort
def ng (w : World) : Prop := Lib.TabIs prog w "internal/strconv.uint64pow10" .u64 Lib.pow10Tab
theorem ag4 (w:World) (k:Nat) (os:Array Obj):Below w.heap.size w (grow (w.drewN k) os):=by
 have h:Below w.heap.size w (w.drewN k):=(aC w.heap.size w).trans ⟨rfl,rfl,rfl,af,fun _ _=>rfl⟩;refine⟨h.os,h.tape,h.output,?_,fun j hj=>?_⟩
 ·simp[grow]
 ·rw[← h.block j hj];simp only[grow];rw[Array.getElem?_append_left (by simpa using hj)]
theorem atZ (u:Nat) (hu:u < 18446744073709551616) (w:World) (htab:ng w) :
  Calls prog 215 #[.int .u64 u,.int .i64 10] w fun e w'=>e=.returned (.string ⟨(Lib.decDigits u).toArray⟩)∧Below w.heap.size w w':=by
 unfold ng at htab;by_cases hs:(u:Int) < 100
 ·have c:=Tryz.internal_strconv_small u ae;go_enter func215,ntmps215
  go_wp2_with fail;refine aI (c _) ?_
  rintro e w' ⟨rfl,rfl⟩;go_wp2_with fail;go_ret;exact vz
 ·have awa:Lib.nDigits u≤20:=(by have:=Lib.numDigits_eq u ae hu;split at this<;>omega);have hb3:Lib.nDigits u≤24:=ae;have cn:=fun W htab=>Tryz.internal_strconv_numDigits u ae hu W htab
  have yz:=Lib.holds_zero0 w 308 (Lib.nDigits u) hb3;have aaP:=Tryz.internal_strconv_formatBase10 w.heap.size 0 24 u (Array.replicate (Lib.nDigits u) 0) (w.alloc (.cells Lib.zeros24 308)) yz (by rw[Array.size_replicate];exact Lib.lt_pow_nDigits u) hu (by rw[Array.size_replicate];omega);rw[Array.size_replicate]at aaP;have Gy:prog.arrayLen 308=24:=aj;have iQ:∀ W,(Instr.sliceAt 308 (.pointer (some ⟨w.heap.size,0,none⟩)) none (some (.int .i64 (Lib.nDigits u:Int))) none).run prog W=.ok (.slice (some ⟨w.heap.size,0,none⟩) (Lib.nDigits u) 24) W:=fun W=>by
   rw[run_sliceAt_array_h W 308 ⟨w.heap.size,0,none⟩ aj .i64 (Lib.nDigits u:Int) ae (by rw[Gy];omega)];go_simp
  clear Gy;have HH0:=Qh yz;clear yz;go_enter func215,ntmps215
  go_wp2_with fail;refine(cn _ (Lib.tabIs_alloc htab _)).mono ?_;rintro e w' ⟨rfl,rfl⟩;go_wp2_with fail;refine aaP.mono ?_;rintro e w' ⟨rfl,k,v',dk,rfl,hF⟩;have hcv:(convert 199 9 (.slice (some ⟨w.heap.size,0,none⟩) (Lib.nDigits u) 24)).run prog ((putRow (fun (b:UInt8)=>Value.int .u8 (b.toNat:Int)) (w.alloc (.cells Lib.zeros24 308)) w.heap.size 0 dk).drewN k)=.ok (.string ⟨(Lib.decDigits u).toArray⟩) ((putRow (fun (b:UInt8)=>Value.int .u8 (b.toNat:Int)) (w.alloc (.cells Lib.zeros24 308)) w.heap.size 0 dk).drewN k):=by
   have h:=run_convert_bytes_back (P:=prog) ((putRow (fun (b:UInt8)=>Value.int .u8 (b.toNat:Int)) (w.alloc (.cells Lib.zeros24 308)) w.heap.size 0 dk).drewN k) 199 9 5 ⟨w.heap.size,0,none⟩ 24 (Lib.decDigits u) underlying199 underlying5 underlying9 (fun j hj=>by
    rw[Lib.row_is_numeral hF j hj,Lib.add_plain,World.cell?_drewN];exact cell?_putRow (fun (b:UInt8)=>Value.int .u8 (b.toNat:Int)) _ w.heap.size 0 _ dk HH0.o (by rw[hF.size,Array.size_replicate]) j (by rw[hF.size];rw[Lib.decDigits_length]at hj;exact hj))
   rw[Lib.decDigits_length]at h;exact h
  obtain⟨os,eo⟩:=Lib.fin_at w (.cells Lib.zeros24 308) dk k 0;have eE:=Qh (show Below w.heap.size w ((putRow (fun (b:UInt8)=>Value.int .u8 (b.toNat:Int)) (w.alloc (.cells Lib.zeros24 308)) w.heap.size 0 dk).drewN k)by rw[eo];exact ag4 w k os);clear eo aaP cn;go_wp2_with fail;go_ret;exact⟨rfl,eE.o⟩
theorem aqM (u:Nat) (hu:u < 18446744073709551616) (w:World) (htab:ng w) :
  Calls prog 191 #[.int .u64 u,.int .i64 10] w fun e w'=>e=.returned (.string ⟨(Lib.decDigits u).toArray⟩)∧Below w.heap.size w w':=by
 have c:=atZ u hu w htab;clear htab;go_enter func191,ntmps191
 go_wp2_with fail;refine c.mono ?_;rintro e w' ⟨rfl,hb⟩;exact CV
open Go.RowKit
def Mg (b:UInt8):List Value:=[.int .u8 (b.toNat:Int)]
theorem adl:eO prog 199 5 1 1:=eO.mk' (.int .u8 0) underlying199 aj rfl ah ah
theorem Sd (A B:List UInt8):(⟨A.toArray⟩:ByteArray)++⟨B.toArray⟩=⟨(A++B).toArray⟩:=by
 apply ByteArray.ext;simp
theorem apU {B B':Nat} {v:Value} (h:Gm B v) (hb:B'≤B):Gm B' v:=fun a n c e=>bQ hb (h a n c e)
theorem Ns {n:Nat} (h:n < 4294967296):(aT n).length≤1:=(nT n 1).2 vK
theorem at1 : prog.globalNamed "internal/strconv.uint64pow10" = some 4 := by kernel_rfl
theorem ng.keep {w w':World} (h:ng w) (hb:Below w.heap.size w w'):ng w':=by
 unfold ng Lib.TabIs World.var? at h ⊢;rw[at1]at h ⊢;simp only[Option.bind_some]at h ⊢;have hlt:4 < w.heap.size:=by
  rcases lI 4 w.heap.size with h' | h'
  ·exact h'
  ·rw[Array.getElem?_eq_none h']at h;cases h
 rw[hb.block _ hlt];exact h
open Go.RowKit Go.Shelf
def bS (s:List UInt8) (i:Nat):UInt8:=(s[i]?).getD 0
theorem Tw {s:List UInt8} {i:Nat} (h:i < s.length):bS s i=s[i]:=by unfold bS;rw[kC h];rfl
theorem aat {s:List UInt8} {i:Nat} (h:¬ i < s.length):bS s i=0:=by unfold bS;rw[Fp ae];rfl
theorem Hl (s:List UInt8) (i j:Nat):bS (s.drop i) j=bS s (i+j):=by unfold bS;rw[zy]
theorem KJ (s:List UInt8) (i:Nat) (h:i < s.length):(⟨s.toArray⟩:ByteArray)[i]'h=bS s i:=by rw[Tw h];rfl
theorem Sy (s:List UInt8) (n:Nat):kM s n=if qU (bS s n)=true then 0 else n:=by
 unfold kM bS;cases s[n]? with
 | none=>rfl
 | some c=>rfl
theorem aaA (s:List UInt8) (n:Nat):kN s n=if ju (bS s n)=true then (if tw (s.drop (n+1+dA (s.drop (n+1))))=[] then 0 else kM s (n+1+dA (s.drop (n+1))+(tw (s.drop (n+1+dA (s.drop (n+1))))).length)) else kM s n:=by
 unfold kN bS;cases s[n]? with
 | none=>rfl
 | some c=>rfl
theorem aaz (s:List UInt8) (n:Nat):ni s n=if bS s n=46 then (if tw (s.drop (n+1))=[] then 0 else kN s (n+(1+(tw (s.drop (n+1))).length))) else kN s n:=by
 unfold ni bS;cases s[n]? with
 | none=>rfl
 | some c=>rfl
theorem ah8 (s:List UInt8) (i:Nat):dA (s.drop i)=if eW (bS s i)=true then 1 else 0:=by
 by_cases h:i < s.length
 ·rw[jq h,Tw h];rfl
 ·rw[rP ae,aat h];rfl
theorem aay (s:List UInt8) (i:Nat):eZ (bS s (i+(tw (s.drop i)).length)).toNat=false:=by
 rw[← Hl];generalize s.drop i=l
 induction l with
 | nil=>rfl
 | cons c t ih=>
  cases h:fq c
  ·rw[uw h];exact h
  ·rw[sx h];exact ih
def Hk (s:List UInt8) (i:Nat):Nat:=ni s (i+dA (s.drop i)+(tw (s.drop (i+dA (s.drop i)))).length)
def AO (i n:Nat):Nat:=if n=0 then 0 else i+n
theorem aip (s:List UInt8) (i n:Nat) (hn:1≤n):kM s (i+n)=AO i (kM (s.drop i) n):=by
 rw[Sy,Sy,Hl];split
 ·rfl
 ·unfold AO;rw[if_neg ae]
theorem aiq (s:List UInt8) (i n:Nat) (hn:1≤n):kN s (i+n)=AO i (kN (s.drop i) n):=by
 rw[aaA,aaA,Hl];simp only[lG,kE];split
 ·split
  ·rfl
  ·exact aip s i _ ae
 ·exact aip s i n hn
theorem ate (s:List UInt8) (i n:Nat) (hn:1≤n):ni s (i+n)=AO i (ni (s.drop i) n):=by
 rw[aaz,aaz,Hl];simp only[lG,kE];split
 ·split
  ·rfl
  ·exact aiq s i _ ae
 ·exact aiq s i n hn
theorem asZ (s:List UInt8) (i:Nat) (h:tw (s.drop (i+dA (s.drop i)))≠[]):Hk s i=AO i (fg (s.drop i)):=by
 have bm:0 < (tw (s.drop (i+dA (s.drop i)))).length:=qs.2 h;unfold Hk fg;rw[kE,ate s i _ ae,lG]
theorem ah9 (c:UInt8):eW c=true↔c=43∨c=45:=by unfold eW;simp
theorem asO (c:UInt8):ju c=true↔c=101∨c=69:=by unfold ju;simp
theorem ah6 (c:UInt8) (m:Nat) (hm:m < 256):((c.toNat:Int) == (m:Int))=decide (c=UInt8.ofNat m):=by
 rw[Fy,dZ,rR];constructor
 ·intro h;exact UInt8.toNat.inj (by rw[Fm (by simpa using hm)];omega)
 ·intro h;rw[h,Fm (by simpa using hm)]
structure dI where
 line:Int
 ak:Int
 name:List UInt8
 role:Int
 branch:Nat
 start:Int
 size:Int
 aqH:Bool
 signed:Bool
 sn:Int
 sd:Int
 on:Int
 od:Int
 mn:Int
 md:Int
 xn:Int
 xd:Int
 unit:List UInt8
def dr (l:List UInt8):List Value:=[.string ⟨l.toArray⟩]
theorem akA (l:List UInt8):(dr l).length=1:=rfl
theorem xJ:eO prog 27 9 1 16:=eO.mk' (.string ⟨#[]⟩) underlying27 aj rfl ah ah
abbrev xS (w:World) (a:Option Addr) (cap:Nat) (l:List (List UInt8)):Prop:=bA w dr 1 a cap l
theorem xS.at {w:World} {a:Option Addr} {cap:Nat} {l:List (List UInt8)} (h:xS w a cap l) {k:Nat} (hk:k < l.length):∃ b o,a=some ⟨b,o,none⟩∧b < w.heap.size∧w.cell? ⟨b,o+k,none⟩=some (.string ⟨l[k].toArray⟩):=
 bA.cell1 h (fun x:List UInt8=>.string ⟨x.toArray⟩) (fun _=>rfl) hk
end Go.Proofs.YtfflljgnpfldfaaGreatDoor
