/-
  strings.ContainsRune at the signs: contract, at every rune.
-/
import Derived.Test.YtampdbkafkcfdaaGreatDoorLexM
import Derived.Test.YtampdbkafkcfdaaGreatDoorLexB
import Derived.Test.YtampdbkafkcfdaaGreatDoorChrE
import Derived.Test.YtampdbkafkcfdaaGreatDoorIsErr
import Derived.Test.YtampdbkafkcfdaaGreatDoorCalm
import Derived.BigQuiet
import Derived.WalkMore

namespace Go.Proofs.YtampdbkafkcfdaaGreatDoor
set_option linter.unusedVariables false
open Go.RowKit Go.Shelf

theorem is_nilA (n : Int) (w : World) :
    Calls Tryz.prog 25 #[.nilIface, .iface 71 (.int .i64 n)] w fun e w' => e = .returned (.bool false) ∧ w' = w := by
  have he : ∀ w : World, (binOp .eql 36 .nilIface (.iface 71 (.int .i64 n))).run Tryz.prog w = .ok (.bool false) w := fun w => by kernel_rfl
  go_enter Tryz.func25, Tryz.ntmps25
  go_wp2_with fail
  go_ret
  exact ⟨rfl, rfl⟩
theorem ext_to (L : List UInt8) (j : Nat) : (⟨L.toArray⟩ : ByteArray).extract 0 j = ⟨(L.take j).toArray⟩ := by
  have h : ∀ (a b : ByteArray), a.data.toList = b.data.toList → a = b := fun a b e => by cases a; cases b; simp at e; rw [e]
  apply h
  rw [Go.Lib.extract_data]
  show (L.drop 0).take (j - 0) = L.take j
  rw [List.drop_zero, Nat.sub_zero]

theorem Blk.four {w : World} {k : Nat} {a b c d : Value} (h : Blk w k #[a, b, c, d]) : (w.cell? ⟨k, 0, none⟩ = some a ∧ w.cell? ⟨k, 1, none⟩ = some b ∧ w.cell? ⟨k, 2, none⟩ = some c ∧ w.cell? ⟨k, 3, none⟩ = some d) ∧ w.frozen? ⟨k, 0, none⟩ = false ∧ w.frozen? ⟨k, 1, none⟩ = false ∧ w.frozen? ⟨k, 2, none⟩ = false ∧ w.frozen? ⟨k, 3, none⟩ = false :=
  ⟨⟨h.cell 0 _ rfl, h.cell 1 _ rfl, h.cell 2 _ rfl, h.cell 3 _ rfl⟩, h.free 0, h.free 1, h.free 2, h.free 3⟩
theorem below_set4 {B k : Nat} {w W : World} (h : Below B w W) (hk : B ≤ k) (a b c d : Value) : Below B w ((((W.setCell ⟨k, 0, none⟩ a).setCell ⟨k, 1, none⟩ b).setCell ⟨k, 2, none⟩ c).setCell ⟨k, 3, none⟩ d) :=
  (((h.setCell (p := ⟨k, 0, none⟩) hk _).setCell (p := ⟨k, 1, none⟩) hk _).setCell (p := ⟨k, 2, none⟩) hk _).setCell (p := ⟨k, 3, none⟩) hk _
def tokV (k : Int) (t : List UInt8) (p : Int × Int) : Value := .agg #[.int .i64 k, .string ⟨t.toArray⟩, .int .i64 p.1, .int .i64 p.2]
def tokE (n : Nat) : Value := .tuple #[tokV 0 [] (0, 0), .int .i64 0, .int .i64 (n : Nat)]
def tokG (k : Int) (t : List UInt8) (n : Nat) : Value := .tuple #[tokV k t (0, 0), .int .i64 (n : Nat), .int .i64 0]
def textF (s : List UInt8) : Option Nat → Value
  | none => tokE 6
  | some i => match unqL (s.take (i + 1)) with
    | .bad n => if n = 5 then tokE 5 else tokE 6
    | .good t => tokG 3 t (i + 1)
def textT (s : List UInt8) : Value := textF s (endQ false 1 (s.drop 1))

end Go.Proofs.YtampdbkafkcfdaaGreatDoor

namespace Go.Proofs.YtampdbkafkcfdaaGreatDoor
set_option linter.unusedVariables false
open Go.RowKit Go.Shelf

def signsL : List UInt8 := [58, 124, 40, 41, 91, 93, 44, 59]
def sgU (r : Nat) : Bool := r == 58 || r == 124 || r == 40 || r == 41 || r == 91 || r == 93 || r == 44 || r == 59
theorem sg_low : (List.range 128).all (fun r => decide (0 ≤ Lib.indexByte signsL ((r : Int).toNat.toUInt8)) == sgU r) = true := by decide +kernel
theorem sgU_low {r : Nat} (h : 128 ≤ r) : sgU r = false := by
  unfold sgU
  simp only [Bool.or_eq_false_iff, beq_eq_false_iff_ne]
  omega
theorem enc_shape (r : Nat) (h1 : 128 ≤ r) (h2 : r < 55296 ∨ 57344 ≤ r) (h3 : r ≤ 1114111) :
    (∃ x b : UInt8, Utf8.encode (r : Int) = ⟨#[x, b]⟩ ∧ 128 ≤ b.toNat) ∨ (∃ x y b : UInt8, Utf8.encode (r : Int) = ⟨#[x, y, b]⟩ ∧ 128 ≤ b.toNat) ∨ (∃ x y z b : UInt8, Utf8.encode (r : Int) = ⟨#[x, y, z, b]⟩ ∧ 128 ≤ b.toNat) := by
  have hv : Utf8.valid (r : Int) = true := by unfold Utf8.valid; simp; omega
  have hb : ∀ m : Nat, m < 128 → 128 ≤ (UInt8.ofNat (128 + m)).toNat := fun m hm => by rw [UInt8.toNat_ofNat_of_lt' (by show 128 + m < 256; omega)]; omega
  unfold Utf8.encode
  simp only [hv, if_true, Int.toNat_natCast]
  rw [if_neg (by omega)]
  split
  · exact .inl ⟨_, _, rfl, hb _ (by omega)⟩
  split
  · exact .inr (.inl ⟨_, _, _, rfl, hb _ (by omega)⟩)
  · exact .inr (.inr ⟨_, _, _, _, rfl, hb _ (by omega)⟩)
theorem idx_none : ∀ (l : List UInt8) (b : UInt8), b ∉ l → Lib.indexByte l b = -1
  | [], b, _ => rfl
  | c :: l, b, h => by
    show (if (c == b) = true then _ else if (Lib.indexByte l b == -1) = true then _ else _) = _
    rw [if_neg (by rw [beq_iff_eq]; rintro rfl; exact h (List.mem_cons_self ..)), idx_none l b (fun h2 => h (List.mem_cons_of_mem _ h2)), if_pos (by decide)]
theorem signs_dec (k : Nat) (hk : k < 8) : ∃ c : Nat, c < 128 ∧ decL (signsL.drop k) = (c, 1) := by
  have hlt : k < signsL.length := hk
  rw [List.drop_eq_getElem_cons hlt]
  have : signsL[k].toNat < 128 := by
    have h : ∀ c ∈ signsL, c.toNat < 128 := by decide
    exact h _ (List.getElem_mem hlt)
  exact ⟨_, this, dec_ascii _ _ this⟩

end Go.Proofs.YtampdbkafkcfdaaGreatDoor
