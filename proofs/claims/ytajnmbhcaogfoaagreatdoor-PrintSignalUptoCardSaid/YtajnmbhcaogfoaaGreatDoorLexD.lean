/-
  strings.ContainsRune at the signs: contract, at every rune.
-/
import Derived.Test.YtajnmbhcaogfoaaGreatDoorLexC
import Derived.Test.YtajnmbhcaogfoaaGreatDoorCalm
import Derived.BigQuiet
import Derived.WalkMore
namespace Go.Proofs.YtajnmbhcaogfoaaGreatDoor
set_option linter.unusedVariables false
open Go.RowKit Go.Shelf

def signsL : List UInt8 := [58, 124, 40, 41, 91, 93, 44, 59]
def sgU (r : Nat) : Bool := r == 58 || r == 124 || r == 40 || r == 41 || r == 91 || r == 93 || r == 44 || r == 59
theorem sg_low : (List.range 128).all (fun r => decide (0 ≤ Lib.indexByte signsL ((r : Int).toNat.toUInt8)) == sgU r) = true := by decide +kernel
theorem sgU_low {r : Nat} (h : 128 ≤ r) : sgU r = false := by
  unfold sgU
  simp only [Bool.or_eq_false_iff, beq_eq_false_iff_ne]
  omega
theorem enc_shape (r : Nat) (h1 : 128 ≤ r) (h2 : r < 55296 ∨ 57344 ≤ r) (h3 : r ≤ 1114111) :
    (∃ x b : UInt8, Utf8.encode (r : Int) = ⟨#[x, b]⟩ ∧ 128 ≤ b.toNat) ∨ (∃ x y b : UInt8, Utf8.encode (r : Int) = ⟨#[x, y, b]⟩ ∧ 128 ≤ b.toNat) ∨ (∃ x y z b : UInt8, Utf8.encode (r : Int) = ⟨#[x, y, z, b]⟩ ∧ 128 ≤ b.toNat) := by
  have hv : Utf8.valid (r : Int) = true := by unfold Utf8.valid; simp; omega
  have hb : ∀ m : Nat, m < 128 → 128 ≤ (UInt8.ofNat (128 + m)).toNat := fun m hm => by rw [UInt8.toNat_ofNat_of_lt' (by show 128 + m < 256; omega)]; omega
  unfold Utf8.encode
  simp only [hv, if_true, Int.toNat_natCast]
  rw [if_neg (by omega)]
  split
  · exact .inl ⟨_, _, rfl, hb _ (by omega)⟩
  split
  · exact .inr (.inl ⟨_, _, _, rfl, hb _ (by omega)⟩)
  · exact .inr (.inr ⟨_, _, _, _, rfl, hb _ (by omega)⟩)
theorem idx_none : ∀ (l : List UInt8) (b : UInt8), b ∉ l → Lib.indexByte l b = -1
  | [], b, _ => rfl
  | c :: l, b, h => by
    show (if (c == b) = true then _ else if (Lib.indexByte l b == -1) = true then _ else _) = _
    rw [if_neg (by rw [beq_iff_eq]; rintro rfl; exact h (List.mem_cons_self ..)), idx_none l b (fun h2 => h (List.mem_cons_of_mem _ h2)), if_pos (by decide)]
theorem signs_dec (k : Nat) (hk : k < 8) : ∃ c : Nat, c < 128 ∧ decL (signsL.drop k) = (c, 1) := by
  have hlt : k < signsL.length := hk
  rw [List.drop_eq_getElem_cons hlt]
  have : signsL[k].toNat < 128 := by
    have h : ∀ c ∈ signsL, c.toNat < 128 := by decide
    exact h _ (List.getElem_mem hlt)
  exact ⟨_, this, dec_ascii _ _ this⟩

end Go.Proofs.YtajnmbhcaogfoaaGreatDoor
