/-
  Layer 7: a signal's order and role, in the program and in the reference: contracts.
-/
import Derived.Test.YtlacjhjckkablaaGreatDoorLexB
import Derived.Test.YtlacjhjckkablaaGreatDoorLexM
import Derived.Test.YtlacjhjckkablaaGreatDoorBaseC
import Derived.Test.YtlacjhjckkablaaGreatDoorTxtP
import Derived.Laws.IdiomStrings
import Derived.Test.YtlacjhjckkablaaGreatDoorParR
import Derived.Lib.SmallJoins
set_option maxHeartbeats 128000000
set_option linter.unusedVariables false
namespace Go.Proofs.YtlacjhjckkablaaGreatDoor
open Go.RowKit Go.Shelf
def atB (s:List UInt8) (i:Nat):UInt8:=(s[i]?).getD 0
theorem atB_lt {s:List UInt8} {i:Nat} (h:i < s.length):atB s i=s[i]:=by unfold atB;rw[List.getElem?_eq_getElem h];rfl
theorem atB_end {s:List UInt8} {i:Nat} (h:¬ i < s.length):atB s i=0:=by unfold atB;rw[List.getElem?_eq_none (by omega)];rfl
theorem atB_drop (s:List UInt8) (i j:Nat):atB (s.drop i) j=atB s (i+j):=by unfold atB;rw[List.getElem?_drop]
theorem get_atB (s:List UInt8) (i:Nat) (h:i < s.length):(⟨s.toArray⟩:ByteArray)[i]'h=atB s i:=by rw[atB_lt h];rfl
theorem num3_at (s:List UInt8) (n:Nat):num3T s n=if stopN (atB s n)=true then 0 else n:=by
 unfold num3T atB;cases s[n]? with
 | none=>rfl
 | some c=>rfl
theorem num2_at (s:List UInt8) (n:Nat):num2T s n=if isEe (atB s n)=true then (if tw (s.drop (n+1+sgnN (s.drop (n+1))))=[] then 0 else num3T s (n+1+sgnN (s.drop (n+1))+(tw (s.drop (n+1+sgnN (s.drop (n+1))))).length)) else num3T s n:=by
 unfold num2T atB;cases s[n]? with
 | none=>rfl
 | some c=>rfl
theorem num1_at (s:List UInt8) (n:Nat):num1T s n=if atB s n=46 then (if tw (s.drop (n+1))=[] then 0 else num2T s (n+(1+(tw (s.drop (n+1))).length))) else num2T s n:=by
 unfold num1T atB;cases s[n]? with
 | none=>rfl
 | some c=>rfl
theorem sgn_at (s:List UInt8) (i:Nat):sgnN (s.drop i)=if isSg (atB s i)=true then 1 else 0:=by
 by_cases h:i < s.length
 ·rw[List.drop_eq_getElem_cons h,atB_lt h];rfl
 ·rw[List.drop_eq_nil_of_le (by omega),atB_end h];rfl
theorem tw_max (s:List UInt8) (i:Nat):dgU (atB s (i+(tw (s.drop i)).length)).toNat=false:=by
 rw[← atB_drop];generalize s.drop i=l
 induction l with
 | nil=>rfl
 | cons c t ih=>
  cases h:isDg c
  ·rw[tw_stop h];exact h
  ·rw[tw_cons h];exact ih
def numA (s:List UInt8) (i:Nat):Nat:=num1T s (i+sgnN (s.drop i)+(tw (s.drop (i+sgnN (s.drop i)))).length)
def shN (i n:Nat):Nat:=if n=0 then 0 else i+n
theorem num3_sh (s:List UInt8) (i n:Nat) (hn:1≤n):num3T s (i+n)=shN i (num3T (s.drop i) n):=by
 rw[num3_at,num3_at,atB_drop];split
 ·rfl
 ·unfold shN;rw[if_neg (by omega)]
theorem num2_sh (s:List UInt8) (i n:Nat) (hn:1≤n):num2T s (i+n)=shN i (num2T (s.drop i) n):=by
 rw[num2_at,num2_at,atB_drop];simp only[List.drop_drop,Nat.add_assoc];split
 ·split
  ·rfl
  ·exact num3_sh s i _ (by omega)
 ·exact num3_sh s i n hn
theorem num1_sh (s:List UInt8) (i n:Nat) (hn:1≤n):num1T s (i+n)=shN i (num1T (s.drop i) n):=by
 rw[num1_at,num1_at,atB_drop];simp only[List.drop_drop,Nat.add_assoc];split
 ·split
  ·rfl
  ·exact num2_sh s i _ (by omega)
 ·exact num2_sh s i n hn
theorem numA_sh (s:List UInt8) (i:Nat) (h:tw (s.drop (i+sgnN (s.drop i)))≠[]):numA s i=shN i (numN (s.drop i)):=by
 have hpos:0 < (tw (s.drop (i+sgnN (s.drop i)))).length:=List.length_pos_iff.2 h;unfold numA numN;rw[Nat.add_assoc,num1_sh s i _ (by omega),List.drop_drop]
theorem isSg_iff (c:UInt8):isSg c=true↔c=43∨c=45:=by unfold isSg;simp
theorem isEe_iff (c:UInt8):isEe c=true↔c=101∨c=69:=by unfold isEe;simp
theorem u8_eqB (c:UInt8) (m:Nat) (hm:m < 256):((c.toNat:Int) == (m:Int))=decide (c=UInt8.ofNat m):=by
 rw[Bool.eq_iff_iff,beq_iff_eq,decide_eq_true_eq];constructor
 ·intro h;exact UInt8.toNat.inj (by rw[UInt8.toNat_ofNat_of_lt' (by simpa using hm)];omega)
 ·intro h;rw[h,UInt8.toNat_ofNat_of_lt' (by simpa using hm)]
structure SigD where
 line:Int
 col:Int
 name:List UInt8
 role:Int
 branch:Nat
 start:Int
 size:Int
 moto:Bool
 signed:Bool
 sn:Int
 sd:Int
 on:Int
 od:Int
 mn:Int
 md:Int
 xn:Int
 xd:Int
 unit:List UInt8
end Go.Proofs.YtlacjhjckkablaaGreatDoor
