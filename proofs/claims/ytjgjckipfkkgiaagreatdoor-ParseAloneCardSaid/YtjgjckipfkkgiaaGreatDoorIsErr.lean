/-
  errors.Is at the numbers of package api: contracts.
-/
import Derived.Test.YtjgjckipfkkgiaaGreatDoorRows
import Derived.Test.YtjgjckipfkkgiaaGreatDoorBaseD
import Derived.Stop.Asserts
import Derived.Deep.DeepCutAuto
import Derived.Deep.CutBlock
import Derived.Stop.IfaceNil
import Derived.Lib.IfaceEq
set_option maxHeartbeats 128000000
set_option linter.unusedVariables false
namespace Go.Proofs.YtjgjckipfkkgiaaGreatDoor
open Go.Proofs.Tryz
open Go.RowKit Go.Extern.Stop Go.Stop Go.Extern
theorem isTypeOf (v:Value) (w:World):(Extern.ReflectliteType.typeOf #[.iface 76 v]).run prog w=.ok (.iface 197 (.agg #[typeHandle prog 76])) w:=by kernel_rfl
theorem isComparable (w : World) : ((Extern.ReflectliteType.method fun t => do Rtype.noPackHeld "Comparable" t; (fun a => Value.bool a.comparable) <$> typeInfo t) #[.agg #[typeHandle prog 76]]).run prog w = .ok (.bool true) w := by kernel_rfl
theorem isMethodComparable (fuel : Nat) (v : Value) (w : World) : (Go.method (fuel + 1) 197 v "Comparable").run prog w = .ok (306, v) w := by kernel_rfl
theorem noIsE (v:Value) (xT:TypeId) (w:World):(Instr.typeAssert (.iface 76 v) xT 309 true).run prog w=.ok (.tuple #[.nilIface,.bool false]) w:=run_typeAssert_lacksB underlying309 (by kernel_rfl) (by kernel_rfl) v xT w
theorem noUnwrapE (v:Value) (xT:TypeId) (w:World):(Instr.typeAssert (.iface 76 v) xT 205 true).run prog w=.ok (.tuple #[.nilIface,.bool false]) w:=run_typeAssert_lacksB underlying205 (by kernel_rfl) (by kernel_rfl) v xT w
theorem noUnwrapsE (v:Value) (xT:TypeId) (w:World):(Instr.typeAssert (.iface 76 v) xT 207 true).run prog w=.ok (.tuple #[.nilIface,.bool false]) w:=run_typeAssert_lacksB underlying207 (by kernel_rfl) (by kernel_rfl) v xT w
set_option maxRecDepth 100000 in theorem isin_errno (m n : Int) (w : World) :
  Calls prog 164 #[.iface 76 (.int .i64 m),.iface 76 (.int .i64 n),.bool true] w fun e w'=>e=.returned (.bool (m == n))∧w' = w:=by
 have nE:=noIsE;have uE:=noUnwrapE;have vE:=noUnwrapsE;have heq:=fun w=>Lib.run_eql_iface_int (P:=prog) w m n (k:=.i64) underlying52 (by kernel_rfl) underlying76
 obtain⟨b,hb⟩:∃ b,b=(m == n):=⟨_,rfl⟩
 rw[← hb]at heq ⊢;clear hb;cases b
 ·go_enter func164,ntmps164
  go_wp2
  refine wp_loop_rounds 1 ?_;rw[rounds_succ];go_wp2
  go_ret;exact⟨rfl,rfl⟩
 ·go_enter func164,ntmps164
  go_wp2
  refine wp_loop_rounds 1 ?_;rw[rounds_succ];go_wp2
  go_ret;exact⟨rfl,rfl⟩
set_option maxRecDepth 100000 in theorem is_errno (m n : Int) (w : World) :
  Calls prog 128 #[.iface 76 (.int .i64 m),.iface 76 (.int .i64 n)] w fun e w'=>e=.returned (.bool (m == n))∧w' = w:=by
 have h8:=@run_callFunc_extern prog 117 _ Extern.ReflectliteType.typeOf func117 (by kernel_rfl) (by kernel_rfl) (by kernel_rfl) (by kernel_rfl);have h32 := @run_callFunc_extern prog 306 _ (Extern.ReflectliteType.method fun t => do Rtype.noPackHeld "Comparable" t; pure (.bool (← typeInfo t).comparable)) func306 (by kernel_rfl) (by kernel_rfl) (by kernel_rfl) (by kernel_rfl)
 have tT:=isTypeOf;have cT:=isComparable;have mR:=isMethodComparable;have ci:=isin_errno m n;generalize (m == n)=b at *;go_enter func128,ntmps128
 go_wp2_with fail;with_reducible refine(ci _).mono ?_
 rintro e w1 ⟨rfl,rfl⟩;clear ci h8 h32 tT cT mR;go_wp2_with fail;go_ret;exact⟨rfl,rfl⟩
end Go.Proofs.YtjgjckipfkkgiaaGreatDoor
