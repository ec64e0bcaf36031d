/-
  chars.Check: contract.
-/
import Derived.Test.YtajnmbhcaogfoaaGreatDoorChrA
import Derived.Test.YtajnmbhcaogfoaaGreatDoorRatD
namespace Go.Proofs.YtajnmbhcaogfoaaGreatDoor
set_option linter.unusedVariables false
open Go.RowKit Go.Shelf
attribute [local go_sem] Oper.semAt_some

def faultV (no line col : Int) : Value := .iface 56 (.agg #[.int .i64 no, .int .i64 line, .int .i64 col])
def checkV (s : List UInt8) : Value :=
  if 1048576 < s.length then errV 5 else match checkL s with
    | none => .nilIface
    | some u => faultV 6 u.line u.col

theorem ext_from (L : List UInt8) (i : Nat) (hi : i ≤ L.length) : (⟨L.toArray⟩ : ByteArray).extract i L.length = ⟨(L.drop i).toArray⟩ := by
  have h : ∀ (a b : ByteArray), a.data.toList = b.data.toList → a = b := fun a b e => by cases a; cases b; simp at e; rw [e]
  apply h
  rw [Go.Lib.extract_data]
  show (L.drop i).take (L.length - i) = L.drop i
  rw [List.take_of_length_le (by rw [List.length_drop]; exact Nat.le_refl _)]
theorem find_none {xs : List Unt} (h : ∀ j (hj : j < xs.length), badU xs[j].rune xs[j].wide = false) : xs.find? (fun u => badU u.rune u.wide) = none := by
  rw [List.find?_eq_none]
  intro u hu
  obtain ⟨j, hj, rfl⟩ := List.getElem_of_mem hu
  rw [h j hj]; decide
theorem find_some {xs : List Unt} {k : Nat} (hk : k < xs.length) (hb : badU xs[k].rune xs[k].wide = true) (h : ∀ j (hj : j < xs.length), j < k → badU xs[j].rune xs[j].wide = false) : xs.find? (fun u => badU u.rune u.wide) = some xs[k] := by
  rw [List.find?_eq_some_iff_getElem]
  exact ⟨hb, k, hk, rfl, fun j hj => by rw [h j (by omega) hj]; rfl⟩
theorem hasPre (l : List UInt8) : Lib.hasPrefix l [239, 191, 189] = true ↔ 3 ≤ l.length ∧ (l.getD 0 0).toNat = 239 ∧ (l.getD 1 0).toNat = 191 ∧ (l.getD 2 0).toNat = 189 := by
  have e : ∀ (a : UInt8) (n : Nat), n < 256 → (a.toNat = n ↔ a = UInt8.ofNat n) := fun a n hn => ⟨fun h => by rw [← h, UInt8.ofNat_toNat], fun h => by rw [h, UInt8.toNat_ofNat_of_lt' (by simpa using hn)]⟩
  rcases l with _ | ⟨a, _ | ⟨b, _ | ⟨c, t⟩⟩⟩
  · simp [Lib.hasPrefix]
  · simp [Lib.hasPrefix]
  · simp [Lib.hasPrefix]
  · simp only [List.length_cons, List.getD_cons_zero, List.getD_cons_succ, e a 239 (by decide), e b 191 (by decide), e c 189 (by decide)]
    show List.isPrefixOf [239, 191, 189] (a :: b :: c :: t) = true ↔ _
    rw [List.isPrefixOf_iff_prefix]
    constructor
    · rintro ⟨m, hm⟩
      simp only [List.cons_append, List.nil_append, List.cons.injEq] at hm
      obtain ⟨h1, h2, h3, _⟩ := hm
      exact ⟨by omega, h1.symm, h2.symm, h3.symm⟩
    · rintro ⟨_, h1, h2, h3⟩
      subst h1 h2 h3
      exact ⟨t, rfl⟩

/-- the unit's five kinds -/
theorem unit_kind (l : List UInt8) (hl : l ≠ []) : ((decL l).1 ≠ 65533 ∧ Lib.runeLen ((decL l).1 : Int) = ((decL l).2 : Int) ∧ badU (decL l).1 (decL l).2 = (ctlU (decL l).1 && !blankU (decL l).1)) ∨
    ((decL l).1 = 65533 ∧ (decL l).2 = 3 ∧ Lib.hasPrefix l [239, 191, 189] = true ∧ badU (decL l).1 (decL l).2 = false) ∨
    ((decL l).1 = 65533 ∧ (decL l).2 = 1 ∧ Lib.hasPrefix l [239, 191, 189] = false ∧ badU (decL l).1 (decL l).2 = true) := by
  by_cases h : (decL l).1 = 65533
  · right
    rcases decN_ill l.length (l.getD 0 0).toNat (l.getD 1 0).toNat (l.getD 2 0).toNat (l.getD 3 0).toNat (UInt8.toNat_lt _) (UInt8.toNat_lt _) (UInt8.toNat_lt _) h with ⟨h1, h2⟩ | ⟨h1, h2⟩
    · right
      have e2 : (decL l).2 = 1 := h1
      refine ⟨h, e2, ?_, ?_⟩
      · rw [Bool.eq_false_iff]; intro h3; exact h2 ((hasPre l).1 h3)
      · unfold badU illU; rw [h, e2]; rfl
    · left
      have e2 : (decL l).2 = 3 := h1
      refine ⟨h, e2, (hasPre l).2 h2, ?_⟩
      unfold badU illU; rw [h, e2]; rfl
  · left
    have hi : illU (decL l).1 (decL l).2 = false := by unfold illU; rw [beq_eq_false_iff_ne.2 h]; rfl
    exact ⟨h, dec_wid l hi, by unfold badU; rw [hi]; rfl⟩

/-- between two rounds -/
def ChkI (s : List UInt8) (w : World) (k : Nat) (W : World) : Prop :=
  (Below w.heap.size w W ∧ Blk W w.heap.size #[.string ⟨s.toArray⟩] ∧ Blk W (w.heap.size + 1) #[.nilIface] ∧ Blk W (w.heap.size + 1 + 1) #[.int .i64 (posU (unitsL s) k : Nat)]) ∧
    ∀ j (hj : j < (unitsL s).length), j < k → badU (unitsL s)[j].rune (unitsL s)[j].wide = false
def ChkX (s : List UInt8) (w : World) (W : World) : Prop := Below w.heap.size w W ∧ ∃ u, checkL s = some u ∧ Blk W (w.heap.size + 1) #[faultV 6 u.line u.col]
theorem keepLow {V W W' : World} {j : Nat} {cs : Array Value} (hb : Below V.heap.size W W') (hj : j < V.heap.size) (h : Blk W j cs) : Blk W' j cs := h.same (hb.block _ hj)
theorem ChkI.low {s : List UInt8} {w V : World} (hV : V.heap.size = w.heap.size + 1 + 1 + 1 + 1) (k : Nat) : LowB V.heap.size (ChkI s w k) := fun W W' h hb =>
  ⟨⟨h.1.1.trans (hb.mono (by omega)), keepLow hb (by omega) h.1.2.1, keepLow hb (by omega) h.1.2.2.1, keepLow hb (by omega) h.1.2.2.2⟩, h.2⟩
theorem ChkX.low {s : List UInt8} {w V : World} (hV : V.heap.size = w.heap.size + 1 + 1 + 1 + 1) : LowB V.heap.size (ChkX s w) := fun W W' h hb =>
  ⟨h.1.trans (hb.mono (by omega)), let ⟨u, h1, h2⟩ := h.2; ⟨u, h1, keepLow hb (by omega) h2⟩⟩

end Go.Proofs.YtajnmbhcaogfoaaGreatDoor
