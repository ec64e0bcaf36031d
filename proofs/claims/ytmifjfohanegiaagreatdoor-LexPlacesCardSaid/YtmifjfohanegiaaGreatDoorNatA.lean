/-
  The reference's natural numbers: contracts of digit, trim, from, word, held.
-/
import Derived.Test.YtmifjfohanegiaaGreatDoorRows
import Derived.Test.YtmifjfohanegiaaGreatDoorBaseB
import Derived.Test.YtmifjfohanegiaaGreatDoorNatM
import Derived.Test.YtmifjfohanegiaaGreatDoorRatN
import Derived.BigQuiet
import Derived.Laws.IdiomStrings
import Derived.WalkLawsBesides
namespace Go.Proofs.YtmifjfohanegiaaGreatDoor
set_option linter.unusedVariables false
open Go.RowKit

def enW (d : Nat) : List Value := [.int .u32 (d : Int)]
theorem enW_len (d : Nat) : (enW d).length = 1 := rfl
abbrev SlD (w : World) (a : Option Addr) (cap : Nat) (l : List Nat) : Prop := SlOf w enW 1 a cap l
theorem SlD.at {w : World} {a : Option Addr} {cap : Nat} {l : List Nat} (h : SlD w a cap l) {k : Nat} (hk : k < l.length) : ∃ b o, a = some ⟨b, o, none⟩ ∧ b < w.heap.size ∧ w.cell? ⟨b, o + k, none⟩ = some (.int .u32 (l[k] : Nat)) :=
  SlOf.cell1 h (fun x => .int .u32 (x : Nat)) (fun _ => rfl) hk

/-- v is the number n, at hand in w -/
def NatV (w : World) (v : Value) (n : Nat) : Prop := ∃ a cap, v = .slice a (digs n).length cap ∧ SlD w a cap (digs n)
theorem NatV.keep {w w' : World} {v : Value} {n : Nat} (h : NatV w v n) (hb : Below w.heap.size w w') : NatV w' v n := by
  obtain ⟨a, cap, e, hs⟩ := h
  exact ⟨a, cap, e, hs.keep hb (Nat.le_refl _)⟩

theorem natV_take {w : World} {a : Option Addr} {cap k n : Nat} {l : List Nat} (hs : SlD w a cap l) (hk : k ≤ l.length) (h : l.take k = digs n) : NatV w (.slice a k cap) n := by
  have h1 : (digs n).length = k := by rw [← h, List.length_take, Nat.min_eq_left hk]
  refine ⟨a, cap, by rw [h1], ?_⟩
  rw [← h]
  refine SlOf.pre (ys := l.drop k) ?_ enW_len
  rw [List.take_append_drop]
  exact hs
/-- a slice that lies in no block below B -/
def FreshV (B : Nat) (v : Value) : Prop := ∀ a n c, v = .slice (some a) n c → B ≤ a.block
theorem fresh_of_owns {α : Type} {w : World} {base : Nat} {e : TypeId} {size : Nat} {en : α → List Value} {a : Option Addr} {n c : Nat} {xs : List α} (h : Owns w base e size en (.slice a n c) xs) (k : Nat) : FreshV base (.slice a k c) := fun ad n' c' he => by
  simp only [Value.slice.injEq] at he
  obtain ⟨rfl, _, _⟩ := he
  exact (h.lt ad.block rfl).1
theorem fresh_lit {B g o k c : Nat} (h : B ≤ g) : FreshV B (.slice (some ⟨g, o, none⟩) k c) := fun ad n' c' he => by
  simp only [Value.slice.injEq, Option.some.injEq] at he
  obtain ⟨rfl, _, _⟩ := he
  exact h
/-- what is handed back is the number n, in memory of the call's own -/
def RetNat (w : World) (n : Nat) (e : Ending) (w' : World) : Prop := ∃ v, e = .returned v ∧ NatV w' v n ∧ FreshV w.heap.size v ∧ Below w.heap.size w w'
def RetTrim (w : World) (a : Option Addr) (cap n : Nat) (e : Ending) (w' : World) : Prop := ∃ k, e = .returned (.slice a k cap) ∧ NatV w (.slice a k cap) n ∧ w' = w

/-- the row without noughts behind, as far as the loop has come -/
def TrimAt (l : List Nat) (k : Nat) (x : Value) : Prop := x = .int .i64 (k : Nat) ∧ k ≤ l.length ∧ valD (l.take k) = valD l
theorem trim_step {l : List Nat} {k : Nat} (h : valD (l.take (k + 1)) = valD l) (hk : k < l.length) (h0 : l[k] = 0) : valD (l.take k) = valD l := by
  rw [← h, List.take_succ_eq_append_getElem hk, valD_snoc, h0]
  simp
theorem trim_end {l : List Nat} (hl : okD l) {k : Nat} (h : valD (l.take k) = valD l) (hk : k ≤ l.length) (h0 : ∀ (hlt : 0 < k), l[k - 1]'(by omega) ≠ 0) : l.take k = digs (valD l) := by
  rw [← h]
  refine (canon (okD_take hl k) fun x hx => ?_).symm
  rcases Nat.eq_zero_or_pos k with rfl | hp
  · simp at hx
  · have := h0 hp
    rw [List.getLast?_eq_getElem?, List.length_take, Nat.min_eq_left hk, List.getElem?_take_of_lt (by omega), List.getElem?_eq_getElem (by omega)] at hx
    simp only [Option.some.injEq] at hx
    rw [← hx]; exact this

end Go.Proofs.YtmifjfohanegiaaGreatDoor
