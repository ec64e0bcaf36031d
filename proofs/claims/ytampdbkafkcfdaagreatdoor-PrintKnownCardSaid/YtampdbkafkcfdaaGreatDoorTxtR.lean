/-
  The reference's Print: contract.
-/
import Derived.Test.YtampdbkafkcfdaaGreatDoorNatT
import Derived.Test.YtampdbkafkcfdaaGreatDoorNatH
import Derived.Test.YtampdbkafkcfdaaGreatDoorTxtP

namespace Go.Proofs.YtampdbkafkcfdaaGreatDoor
set_option linter.unusedVariables false
open Go.RowKit

/-- a fraction of the reference: its sign, its two numbers -/
def FracV (w : World) (v : Value) (neg : Bool) (N D : Nat) : Prop := ∃ x y, v = .agg #[.bool neg, x, y] ∧ NatV w x N ∧ NatV w y D
theorem FracV.keep {w w' : World} {v : Value} {neg : Bool} {N D : Nat} (h : FracV w v neg N D) (hb : Below w.heap.size w w') : FracV w' v neg N D := by
  obtain ⟨x, y, e, h1, h2⟩ := h
  exact ⟨x, y, e, h1.keep hb, h2.keep hb⟩
def RetFrac (w : World) (neg : Bool) (N D : Nat) (e : Ending) (w' : World) : Prop := ∃ v, e = .returned v ∧ FracV w' v neg N D ∧ Below w.heap.size w w'
theorem natV_low {w : World} {v : Value} {n : Nat} (h : NatV w v n) {g q : Nat} {u : Value} (hg : ∀ ad k c, v = .slice (some ad) k c → ad.block ≠ g) : NatV (w.setCell ⟨g, q, none⟩ u) v n :=
  natV_set (len := 0) (cap := 0) h fun ad k c e1 bd k' c' e2 => by
    cases e2
    exact hg ad k c e1
theorem natV_set3 {w : World} {v : Value} {n : Nat} (h : NatV w v n) {g : Nat} {cs : Array Value} (hg : Blk w g cs) (hT : FreshV (g + 1) v ∨ BelowV g v) (a b c : Value) :
    NatV (((w.setCell ⟨g, 0, none⟩ a).setCell ⟨g, 1, none⟩ b).setCell ⟨g, 2, none⟩ c) v n := by
  have hne : ∀ ad k c, v = .slice (some ad) k c → ad.block ≠ g := fun ad k c e => by
    rcases hT with h1 | h1
    · have := h1 ad k c e; omega
    · have := h1 ad k c e; omega
  exact natV_low (natV_low (natV_low h hne) hne) hne
theorem FreshV.low {B B' : Nat} {v : Value} (h : FreshV B v) (hb : B' ≤ B) : FreshV B' v := fun a n c e => Nat.le_trans hb (h a n c e)
theorem Blk.set {w : World} {k : Nat} {cs : Array Value} (h : Blk w k cs) (j : Nat) (v : Value) : Blk (w.setCell ⟨k, j, none⟩ v) k (cs.setIfInBounds j v) := by
  obtain ⟨T, h⟩ := h
  refine ⟨T, ?_⟩
  simp [World.setCell, Array.getElem?_modify, h]
theorem Blk.set3 {w : World} {k : Nat} {x y z : Value} (h : Blk w k #[x, y, z]) (a b c : Value) : Blk (((w.setCell ⟨k, 0, none⟩ a).setCell ⟨k, 1, none⟩ b).setCell ⟨k, 2, none⟩ c) k #[a, b, c] := ((h.set 0 a).set 1 b).set 2 c
theorem Blk.other3 {w : World} {k g : Nat} {cs : Array Value} (h : Blk w k cs) (hg : g ≠ k) (a b c : Value) : Blk (((w.setCell ⟨g, 0, none⟩ a).setCell ⟨g, 1, none⟩ b).setCell ⟨g, 2, none⟩ c) k cs := ((h.other hg a).other hg b).other hg c
theorem below_set3 {B g : Nat} {w w' : World} (h : Below B w w') (hg : B ≤ g) (a b c : Value) : Below B w (((w'.setCell ⟨g, 0, none⟩ a).setCell ⟨g, 1, none⟩ b).setCell ⟨g, 2, none⟩ c) := ((h.setCell hg a).setCell hg b).setCell hg c



end Go.Proofs.YtampdbkafkcfdaaGreatDoor

namespace Go.Proofs.YtampdbkafkcfdaaGreatDoor
set_option linter.unusedVariables false
open Go.RowKit

/-- noughts ahead, until there are so many -/
theorem pad_more (L k q : Nat) (h : Lib.decDigits q = padD L q) (hq : q < 10 ^ L) (j : Nat) : List.replicate j 48 ++ padD L q = padD (j + L) q := (pad_front L j q hq).symm
theorem dec_len_digs {q m : Nat} (h : (digs q).length ≤ m) : (Lib.decDigits q).length ≤ 10 * m + 1 := by
  refine dec_len_le _ _ (Nat.lt_of_lt_of_le ((digs_len q m).1 h) ?_) (by omega)
  refine Nat.le_trans ?_ (Nat.pow_le_pow_right (by decide) (Nat.le_succ _))
  rw [Nat.pow_mul]
  exact Nat.pow_le_pow_left (by decide) _
theorem dec_shape (q : Nat) : ∃ L, 0 < L ∧ Lib.decDigits q = padD L q ∧ q < 10 ^ L := by
  obtain ⟨k, h1, h2, _⟩ := dec_len q
  exact ⟨k + 1, by omega, h1, h2⟩
theorem one_iff {d : Nat} (hd : 0 < d) (h1 : restN d = 1) : placesN d = 0 ↔ d = 1 := by
  have h := ends_iff d hd h1 0
  rw [Nat.pow_zero, Nat.dvd_one] at h
  constructor
  · intro h0; exact h.2 (by omega)
  · intro h0; have := h.1 h0; omega
theorem extract_midR (L : List UInt8) (i j : Nat) (hj : j ≤ L.length) : (⟨L.toArray⟩ : ByteArray).extract i j = ⟨((L.drop i).take (j - i)).toArray⟩ := by
  have h : ∀ (a b : ByteArray), a.data = b.data → a = b := fun a b e => by cases a; cases b; simp at e; rw [e]
  refine h _ _ (Array.ext' ?_)
  rw [Go.Lib.extract_data]

end Go.Proofs.YtampdbkafkcfdaaGreatDoor
