/-
  rat's tenfold, Print: contracts.
-/
import Derived.Test.YtjgjckipfkkgiaaGreatDoorBaseD
import Derived.Test.YtjgjckipfkkgiaaGreatDoorShelfV
import Derived.Test.YtjgjckipfkkgiaaGreatDoorParR
import Derived.Lib.AppendIntMem
import Derived.Lib.ItoaMem
import Derived.Test.YtjgjckipfkkgiaaGreatDoorRows
import Derived.Test.YtjgjckipfkkgiaaGreatDoorRatN
import Derived.BigQuiet
import Derived.Laws.IdiomStrings
import Derived.WalkLawsBesides
import Derived.Deep.CutBlock
import Derived.Deep.DeepCutAuto
import Derived.Test.YtjgjckipfkkgiaaGreatDoorCalm
import Derived.StillTailTactics
import Derived.WalkSmall
import Derived.Laws.BitsAllLaws
import Derived.Deep.LoopGhost
import Derived.Test.YtjgjckipfkkgiaaGreatDoorRatD
set_option maxHeartbeats 128000000
set_option linter.unusedVariables false
namespace Go.Proofs.YtjgjckipfkkgiaaGreatDoor
open Go.Proofs.Tryz
open Go.RowKit Go.Sort
def PowTab (w : World) : Prop := Lib.TabIs prog w "internal/strconv.uint64pow10" .u64 Lib.pow10Tab
theorem below_growN (w:World) (k:Nat) (os:Array Obj):Below w.heap.size w (grow (w.drewN k) os):=by
 have h:Below w.heap.size w (w.drewN k):=(Below.refl w.heap.size w).trans ⟨rfl,rfl,rfl,lrf,fun _ _=>rfl⟩;refine⟨h.os,h.tape,h.output,?_,fun j hj=>?_⟩
 ·simp[grow]
 ·rw[← h.block j hj];simp only[grow];rw[Array.getElem?_append_left (by simpa using hj)]
set_option maxRecDepth 100000 in theorem ifmtUint_any (u : Nat) (hu : u < 18446744073709551616) (w : World) (htab : PowTab w) :
  Calls prog 208 #[.int .u64 u,.int .i64 10] w fun e w'=>e=.returned (.string ⟨(Lib.decDigits u).toArray⟩)∧Below w.heap.size w w':=by
 unfold PowTab at htab;by_cases hs:(u:Int) < 100
 ·have c:=Tryz.internal_strconv_small u (by omega);go_enter func208,ntmps208
  go_wp2_with fail;with_reducible refine(c _).mono ?_
  rintro e w' ⟨rfl,rfl⟩;go_wp2_with fail;go_ret;exact⟨rfl,Below.refl _ _⟩
 ·have hnd20:Lib.nDigits u≤20:=(by have:=Lib.numDigits_eq u (by omega) hu;split at this<;>omega);have hb3:Lib.nDigits u≤24:=(by omega);have cn:=fun W htab=>Tryz.internal_strconv_numDigits u (by omega) hu W htab
  have hH0:=Lib.holds_zero0 w 304 (Lib.nDigits u) hb3;have hfmt:=Tryz.internal_strconv_formatBase10 w.heap.size 0 24 u (Array.replicate (Lib.nDigits u) 0) (w.alloc (.cells Lib.zeros24 304)) hH0 (by rw[Array.size_replicate];exact Lib.lt_pow_nDigits u) hu (by rw[Array.size_replicate];omega);rw[Array.size_replicate]at hfmt;have hal:prog.arrayLen 304=24:=(by kernel_rfl);have hsl:∀ W,(Instr.sliceAt 304 (.pointer (some ⟨w.heap.size,0,none⟩)) none (some (.int .i64 (Lib.nDigits u:Int))) none).run prog W=.ok (.slice (some ⟨w.heap.size,0,none⟩) (Lib.nDigits u) 24) W:=fun W=>by
   rw[run_sliceAt_array_h W 304 ⟨w.heap.size,0,none⟩ (by kernel_rfl) .i64 (Lib.nDigits u:Int) (by omega) (by rw[hal];omega)];go_simp
  clear hal;have HH0:=Qh hH0;clear hH0;go_enter func208,ntmps208
  go_wp2_with fail;refine(cn _ (Lib.tabIs_alloc htab _)).mono ?_;rintro e w' ⟨rfl,rfl⟩;go_wp2_with fail;refine hfmt.mono ?_;rintro e w' ⟨rfl,k,v',dk,rfl,hF⟩;have hcv:(convert 227 9 (.slice (some ⟨w.heap.size,0,none⟩) (Lib.nDigits u) 24)).run prog ((putRow (fun (b:UInt8)=>Value.int .u8 (b.toNat:Int)) (w.alloc (.cells Lib.zeros24 304)) w.heap.size 0 dk).drewN k)=.ok (.string ⟨(Lib.decDigits u).toArray⟩) ((putRow (fun (b:UInt8)=>Value.int .u8 (b.toNat:Int)) (w.alloc (.cells Lib.zeros24 304)) w.heap.size 0 dk).drewN k):=by
   have h:=run_convert_bytes_back (P:=prog) ((putRow (fun (b:UInt8)=>Value.int .u8 (b.toNat:Int)) (w.alloc (.cells Lib.zeros24 304)) w.heap.size 0 dk).drewN k) 227 9 5 ⟨w.heap.size,0,none⟩ 24 (Lib.decDigits u) underlying227 underlying5 underlying9 (fun j hj=>by
    rw[Lib.row_is_numeral hF j hj,Lib.add_plain,World.cell?_drewN];exact cell?_putRow (fun (b:UInt8)=>Value.int .u8 (b.toNat:Int)) _ w.heap.size 0 _ dk HH0.out (by rw[hF.size,Array.size_replicate]) j (by rw[hF.size];rw[Lib.decDigits_length]at hj;exact hj))
   rw[Lib.decDigits_length]at h;exact h
  obtain⟨os,eo⟩:=Lib.fin_at w (.cells Lib.zeros24 304) dk k 0;have HBB:=Qh (show Below w.heap.size w ((putRow (fun (b:UInt8)=>Value.int .u8 (b.toNat:Int)) (w.alloc (.cells Lib.zeros24 304)) w.heap.size 0 dk).drewN k)by rw[eo];exact below_growN w k os);clear eo hfmt cn;go_wp2_with fail;go_ret;exact⟨rfl,HBB.out⟩
theorem fmtUint_any (u:Nat) (hu:u < 18446744073709551616) (w:World) (htab:PowTab w) :
  Calls prog 188 #[.int .u64 u,.int .i64 10] w fun e w'=>e=.returned (.string ⟨(Lib.decDigits u).toArray⟩)∧Below w.heap.size w w':=by
 have c:=ifmtUint_any u hu w htab;clear htab;go_enter func188,ntmps188
 go_wp2_with fail;refine c.mono ?_;rintro e w' ⟨rfl,hb⟩;go_wp2_with fail;go_ret;exact⟨rfl,hb⟩
open Go.RowKit
theorem strA (A B:List UInt8):(⟨A.toArray⟩:ByteArray)++⟨B.toArray⟩=⟨(A++B).toArray⟩:=by
 apply ByteArray.ext;simp
theorem powGlobal : prog.globalNamed "internal/strconv.uint64pow10" = some 4 := by kernel_rfl
theorem PowTab.keep {w w':World} (h:PowTab w) (hb:Below w.heap.size w w'):PowTab w':=by
 unfold PowTab Lib.TabIs World.var? at h ⊢;rw[powGlobal]at h ⊢;simp only[Option.bind_some]at h ⊢;have hlt:4 < w.heap.size:=by
  rcases Nat.lt_or_ge 4 w.heap.size with h' | h'
  ·exact h'
  ·rw[Array.getElem?_eq_none h']at h;cases h
 rw[hb.block _ hlt];exact h
end Go.Proofs.YtjgjckipfkkgiaaGreatDoor
