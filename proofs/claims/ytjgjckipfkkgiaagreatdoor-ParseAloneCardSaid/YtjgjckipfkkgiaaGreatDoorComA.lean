/-
  The walk of ParseComments where the source is refused, or is too long.
-/
import Derived.Test.YtjgjckipfkkgiaaGreatDoorBaseD
import Derived.Test.YtjgjckipfkkgiaaGreatDoorRows
import Derived.Test.YtjgjckipfkkgiaaGreatDoorCmtM
import Derived.Test.YtjgjckipfkkgiaaGreatDoorPa6A
import Derived.Test.YtjgjckipfkkgiaaGreatDoorRd6B
import Derived.Test.YtjgjckipfkkgiaaGreatDoorBr6A
import Derived.Test.YtjgjckipfkkgiaaGreatDoorSamA
set_option maxHeartbeats 128000000
set_option linter.unusedVariables false
namespace Go.Proofs.YtjgjckipfkkgiaaGreatDoor
open Go.Proofs.Tryz
open Go.RowKit
theorem pick_any (n:Int) (hn:-9223372036854775808≤n∧n≤9223372036854775807) (m:Nat) (hm:0 < m) (hm2:m < 9223372036854775807) (w:World) :
  Calls prog 9 #[.int .i64 n,.int .i64 m] w fun e w'=>∃ k:Nat,k < m∧e=.returned (.int .i64 k)∧Below w.heap.size w w':=by
 have h1:n.tmod (m:Int) < m:=Int.tmod_lt_of_pos n (by omega);have h2:-(m:Int) < n.tmod (m:Int):=by
  have:=Int.tmod_lt_of_pos (-n) (show(0:Int) < m by omega);rw[Int.neg_tmod]at this;omega
 obtain⟨r,hr⟩:∃ r,n.tmod (m:Int)=r:=⟨_,rfl⟩
 rw[hr]at h1 h2;go_enter func9,ntmps9
 by_cases hneg:r < 0
 ·go_wp2
  go_ret;obtain⟨k,hk⟩:=Int.eq_ofNat_of_zero_le (show 0≤r+(m:Int)by omega);exact⟨k,by omega,by rw[hk];rfl,Below.refl _ _⟩
 ·go_wp2
  go_ret;obtain⟨k,hk⟩:=Int.eq_ofNat_of_zero_le (show 0≤r by omega);exact⟨k,by omega,by rw[hk];rfl,Below.refl _ _⟩
def pickN (n:Int) (m:Nat):Nat:=if n.tmod (m:Int) < 0 then (n.tmod (m:Int)+m).toNat else (n.tmod (m:Int)).toNat
theorem pickN_lt (n:Int) (m:Nat) (hm:0 < m):pickN n m < m:=by
 have h1:n.tmod (m:Int) < m:=Int.tmod_lt_of_pos n (by omega);unfold pickN;split<;>omega
theorem pick_fn (n:Int) (hn:-9223372036854775808≤n∧n≤9223372036854775807) (m:Nat) (hm:0 < m) (hm2:m < 9223372036854775807) (w:World) :
  Calls prog 9 #[.int .i64 n,.int .i64 m] w fun e w'=>e=.returned (.int .i64 (pickN n m:Nat))∧w' = w:=by
 have h1:n.tmod (m:Int) < m:=Int.tmod_lt_of_pos n (by omega);have h2:-(m:Int) < n.tmod (m:Int):=by
  have:=Int.tmod_lt_of_pos (-n) (show(0:Int) < m by omega);rw[Int.neg_tmod]at this;omega
 unfold pickN;obtain⟨r,hr⟩:∃ r,n.tmod (m:Int)=r:=⟨_,rfl⟩
 rw[hr]at h1 h2 ⊢;by_cases hneg:r < 0
 ·have hk:=Int.toNat_of_nonneg (show 0≤r+(m:Int)by omega);rw[if_pos hneg];generalize (r+(m:Int)).toNat=k at *;have HK:=Qh hk;clear hk;go_enter func9,ntmps9
  go_wp2
  go_ret;exact⟨by rw[HK.out];rfl,rfl⟩
 ·have hk:=Int.toNat_of_nonneg (show 0≤r by omega);rw[if_neg hneg];generalize r.toNat=k at *;have HK:=Qh hk;clear hk;go_enter func9,ntmps9
  go_wp2
  go_ret;exact⟨by rw[HK.out];rfl,rfl⟩
open Go.RowKit Go.Shelf
set_option maxRecDepth 100000 in theorem parsecomments_no (s : List UInt8) (hs : s.length ≤ 9223372036854775807) (a b : Int) (ha : -9223372036854775808 ≤ a ∧ a ≤ 9223372036854775807) (hb0 : -9223372036854775808 ≤ b ∧ b ≤ 9223372036854775807) (ok : Bool) (hok : ok = true → 524288 < s.length)
  (cR:∀ w,FileW w→Calls prog 6 #[.string ⟨s.toArray⟩] w fun e w'=>∃ C:Array Value,e=.returned (.tuple #[.agg C,.bool ok])∧C.size=9∧C.all (·.oneCell')=true∧Below w.heap.size w w') (w:World) (hW:FileW w) :
  Calls prog 3 #[.string ⟨s.toArray⟩,.int .i64 a,.int .i64 b] w fun e w'=>e=.returned (.bool true)∧Below w.heap.size w w':=by
 have HW:=Qh hW;clear hW;go_enter func3,ntmps3
 go_wp2_with fail;with_reducible refine(cR _ HW.out).mono ?_
 rintro e w1 ⟨C,rfl,hC9,hC1,hb⟩;replace HW:=Qh (HW.out.keep hb);have HB:=Qh hb;clear hb cR;go_upto_region 2 with (refine wpList_newS (Z:=zeroDb) (cs:=C) 32 (.tmp 7) (.tmp 20) (by rw[hC9];exact db_zero) (by rw[hC9];rfl) hC1 ?_)
 have hba:=(Below.refl w1.heap.size w1).alloc lrf (.cells C 32);replace HW:=Qh (HW.out.keep hba);replace HB:=Qh (bstep HB.out hba lrf);generalize w1.alloc (.cells C 32)=w2 at *;clear hba;go_wp2_with fail;with_reducible refine(works6_any _ HW.out).mono ?_
 rintro e w3 ⟨rfl,hb⟩;replace HW:=Qh (HW.out.keep hb);replace HB:=Qh (bstep HB.out hb lrf);clear hb;cases ok
 ·go_wp2_with fail;with_reducible refine(works6_any _ HW.out).mono ?_
  rintro e w4 ⟨rfl,hb⟩;replace HB:=Qh (bstep HB.out hb lrf);clear hb HW;go_wp2_with fail;go_ret;exact⟨rfl,HB.out⟩
 ·have hl:=hok rfl;clear hok;go_wp2_with fail;with_reducible refine(works6_any _ HW.out).mono ?_
  rintro e w4 ⟨rfl,hb⟩;replace HB:=Qh (bstep HB.out hb lrf);clear hb HW;go_wp2_with fail;go_ret;exact⟨rfl,HB.out⟩
end Go.Proofs.YtjgjckipfkkgiaaGreatDoor
