/-
  errors.Is at the numbers of package api: contracts.
-/
import Derived.Test.YtlacjhjckkablaaGreatDoorBaseD
import Derived.Test.YtlacjhjckkablaaGreatDoorRows
import Derived.Stop.Asserts
import Derived.Deep.DeepCutAuto
import Derived.Deep.CutBlock
import Derived.Stop.IfaceNil
import Derived.Lib.IfaceEq
set_option maxHeartbeats 128000000
set_option linter.unusedVariables false
namespace Go.Proofs.YtlacjhjckkablaaGreatDoor
open Go.Proofs.Tryz
open Go.RowKit Go.Extern.Stop Go.Stop Go.Extern
theorem isTypeOf (v:Value) (w:World):(Extern.ReflectliteType.typeOf #[.iface 83 v]).run prog w=.ok (.iface 227 (.agg #[typeHandle prog 83])) w:=by kernel_rfl
theorem isComparable (w : World) : ((Extern.ReflectliteType.method fun t => do Rtype.noPackHeld "Comparable" t; (fun a => Value.bool a.comparable) <$> typeInfo t) #[.agg #[typeHandle prog 83]]).run prog w = .ok (.bool true) w := by kernel_rfl
theorem isMethodComparable (fuel : Nat) (v : Value) (w : World) : (Go.method (fuel + 1) 227 v "Comparable").run prog w = .ok (281, v) w := by kernel_rfl
theorem noIsE (v:Value) (xT:TypeId) (w:World):(Instr.typeAssert (.iface 83 v) xT 276 true).run prog w=.ok (.tuple #[.nilIface,.bool false]) w:=run_typeAssert_lacksB underlying276 (by kernel_rfl) (by kernel_rfl) v xT w
theorem noUnwrapE (v:Value) (xT:TypeId) (w:World):(Instr.typeAssert (.iface 83 v) xT 235 true).run prog w=.ok (.tuple #[.nilIface,.bool false]) w:=run_typeAssert_lacksB underlying235 (by kernel_rfl) (by kernel_rfl) v xT w
theorem noUnwrapsE (v:Value) (xT:TypeId) (w:World):(Instr.typeAssert (.iface 83 v) xT 237 true).run prog w=.ok (.tuple #[.nilIface,.bool false]) w:=run_typeAssert_lacksB underlying237 (by kernel_rfl) (by kernel_rfl) v xT w
set_option maxRecDepth 100000 in theorem isin_errno (m n : Int) (w : World) :
  Calls prog 140 #[.iface 83 (.int .i64 m),.iface 83 (.int .i64 n),.bool true] w fun e w'=>e=.returned (.bool (m == n))∧w' = w:=by
 have nE:=noIsE;have uE:=noUnwrapE;have vE:=noUnwrapsE;have heq:=fun w=>Lib.run_eql_iface_int (P:=prog) w m n (k:=.i64) underlying24 (by kernel_rfl) underlying83
 obtain⟨b,hb⟩:∃ b,b=(m == n):=⟨_,rfl⟩
 rw[← hb]at heq ⊢;clear hb;cases b
 ·go_enter func140,ntmps140
  go_wp2
  refine wp_loop_rounds 1 ?_;rw[rounds_succ];go_wp2
  go_ret;exact⟨rfl,rfl⟩
 ·go_enter func140,ntmps140
  go_wp2
  refine wp_loop_rounds 1 ?_;rw[rounds_succ];go_wp2
  go_ret;exact⟨rfl,rfl⟩
set_option maxRecDepth 100000 in theorem is_errno (m n : Int) (w : World) :
  Calls prog 87 #[.iface 83 (.int .i64 m),.iface 83 (.int .i64 n)] w fun e w'=>e=.returned (.bool (m == n))∧w' = w:=by
 have h8:=@run_callFunc_extern prog 117 _ Extern.ReflectliteType.typeOf func117 (by kernel_rfl) (by kernel_rfl) (by kernel_rfl) (by kernel_rfl);have h32 := @run_callFunc_extern prog 281 _ (Extern.ReflectliteType.method fun t => do Rtype.noPackHeld "Comparable" t; pure (.bool (← typeInfo t).comparable)) func281 (by kernel_rfl) (by kernel_rfl) (by kernel_rfl) (by kernel_rfl)
 have tT:=isTypeOf;have cT:=isComparable;have mR:=isMethodComparable;have ci:=isin_errno m n;generalize (m == n)=b at *;go_enter func87,ntmps87
 go_wp2_with fail;with_reducible refine(ci _).mono ?_
 rintro e w1 ⟨rfl,rfl⟩;clear ci h8 h32 tT cT mR;go_wp2_with fail;go_ret;exact⟨rfl,rfl⟩
theorem num_nil (w:World):Calls prog 33 #[.nilIface] w fun e w'=>e=.returned (.int .i64 0)∧w' = w:=by
 go_enter func33,ntmps33
 go_wp2
 go_ret;exact⟨rfl,rfl⟩
def foundAt (m:Int) (k:Nat) (v:Value):Prop:=v=.int .i64 (if (k:Int)≤m then 0 else m)
set_option maxRecDepth 100000 in theorem num_errno (m : Int) (h1 : 1 ≤ m) (h2 : m ≤ 26) (w : World) : Calls prog 33 #[.iface 83 (.int .i64 m)] w fun e w' => e = .returned (.int .i64 m) ∧ w' = w := by
 have ci:=is_errno m;go_enter func33,ntmps33
 go_wp2_with fail;go_loop [3,4] (fun v n=>∃ k:Nat,1≤k∧k≤27∧n=.int .i64 k∧foundAt m k v) (fun _ n=>27 - (intOf n).toNat)
 case atStart=>exact⟨1,by omega,by omega,rfl,by unfold foundAt;rw[if_pos (by omega)]⟩
 case round=>
  obtain⟨k,hk1,hk2,rfl,hv⟩:=hrel;unfold foundAt at hv;by_cases hlt:(k:Int)≤26
  ·by_cases hkm:(k:Int)=m
   ·have hb:(m == (k:Int))=true:=(by rw[beq_iff_eq];exact hkm.symm);rw[if_pos (by omega)]at hv;subst hv;have hc:=ci k;rw[hb]at hc;have HK:=Qh hkm;clear hkm hb ci;go_wp2_with fail;with_reducible refine(hc _).mono ?_
    rintro e w1 ⟨rfl,rfl⟩;go_wp2_with fail;go_round
    case rel=>exact⟨k+1,by omega,by omega,by go_num,by unfold foundAt;rw[if_neg (by have:=HK.out;omega),HK.out]⟩
    case measure=>simp[intOf];omega
   ·have hb:(m == (k:Int))=false:=(by rw[beq_eq_false_iff_ne];exact fun h=>hkm h.symm);have hc:=ci k;rw[hb]at hc;by_cases hle:(k:Int)≤m
    ·rw[if_pos hle]at hv;subst hv;clear hb ci;go_wp2_with fail;with_reducible refine(hc _).mono ?_
     rintro e w1 ⟨rfl,rfl⟩;go_wp2_with fail;go_round
     case rel=>exact⟨k+1,by omega,by omega,by go_num,by unfold foundAt;rw[if_pos (by omega)]⟩
     case measure=>simp[intOf];omega
    ·rw[if_neg hle]at hv;subst hv;clear hb ci;go_wp2_with fail;with_reducible refine(hc _).mono ?_
     rintro e w1 ⟨rfl,rfl⟩;go_wp2_with fail;go_round
     case rel=>exact⟨k+1,by omega,by omega,by go_num,by unfold foundAt;rw[if_neg (by omega)]⟩
     case measure=>simp[intOf];omega
  ·rw[if_neg (by omega)]at hv;subst hv;have hc:=ci 0;have hb:(m == 0)=false:=(by rw[beq_eq_false_iff_ne];omega);rw[hb]at hc;clear ci;go_wp2_with fail;with_reducible refine(hc _).mono ?_
   rintro e w1 ⟨rfl,rfl⟩;go_wp2_with fail;go_ret;exact⟨rfl,rfl⟩
end Go.Proofs.YtlacjhjckkablaaGreatDoor
