/-
  A list of the same kind put behind a list of the call's own.
-/
import Derived.Test.YtampdbkafkcfdaaGreatDoorRows
import Derived.Test.YtampdbkafkcfdaaGreatDoorBaseD
import Derived.Lib.AppendStr

namespace Go.Proofs.YtampdbkafkcfdaaGreatDoor
set_option linter.unusedVariables false
open Go.RowKit

def enByte (b : UInt8) : List Value := [.int .u8 (b.toNat : Int)]
theorem enByte_len (b : UInt8) : (enByte b).length = 1 := rfl
theorem flat_byte : IsFlat Tryz.prog 5 1 enByte (fun _ => True) := by
  refine ⟨by kernel_rfl, fun _ => rfl, ?_⟩
  intro H enc w base spare held fuel cs x hx
  obtain ⟨n, rfl, _, wf⟩ := DataW.trod_int Tryz.underlying5 hx
  have hb := u8_bd wf
  obtain ⟨m, rfl⟩ := Int.eq_ofNat_of_zero_le hb.1
  refine ⟨UInt8.ofNat m, trivial, ?_⟩
  have : (UInt8.ofNat m).toNat = m := by rw [UInt8.toNat_ofNat']; omega
  simp [enByte, this]

theorem bytes_ty : SlTy Tryz.prog 114 5 1 1 := SlTy.mk' (.int .u8 0) Tryz.underlying114 (by kernel_rfl) rfl (by decide) (by decide)

abbrev SlY (w : World) (a : Option Addr) (cap : Nat) (l : List UInt8) : Prop := SlOf w enByte 1 a cap l
theorem SlY.at {w : World} {a : Option Addr} {cap : Nat} {l : List UInt8} (h : SlY w a cap l) {k : Nat} (hk : k < l.length) : ∃ b o, a = some ⟨b, o, none⟩ ∧ b < w.heap.size ∧ w.cell? ⟨b, o + k, none⟩ = some (.int .u8 (l[k].toNat : Int)) :=
  SlOf.cell1 h (fun x => .int .u8 (x.toNat : Int)) (fun _ => rfl) hk

end Go.Proofs.YtampdbkafkcfdaaGreatDoor

namespace Go.Proofs.YtampdbkafkcfdaaGreatDoor
set_option linter.unusedVariables false
open Go.RowKit

set_option maxRecDepth 100000 in
theorem wpList_append_str {w0 wr : World} {ops : Array Oper} {rest : List Oper} {o : Oper} {a : Act} {Q : Exit → Act → World → Prop} {s x : Operand} {base : Nat} {v : Value} (xs ss : List UInt8)
    (hown : Owns wr base 5 1 enByte v xs) (hbel : Below base w0 wr) (hbase : base ≤ w0.heap.size) (hbound : xs.length + ss.length ≤ 140737488355328)
    (h : ∀ v' w1, Owns w1 base 5 1 enByte v' (xs ++ ss) → Below base w0 w1 → wpList Tryz.prog ops Q rest (a.put o.dst v') w1)
    (hgd : o.guard = none := by rfl) (ho : o.op = .call { callee := .builtin .append, args := #[s, x], argTypes := #[114, 9] } := by rfl)
    (hs : a.eval s = v := by rfl) (hx : a.eval x = .string ⟨ss.toArray⟩ := by rfl) : wpList Tryz.prog ops Q (o :: rest) a wr := by
  obtain ⟨i, hi, hz0, hz1, hz2⟩ := info_parts (show (Tryz.prog.info? 5).map (fun i => (i.zero, i.size, i.bytes)) = some (some (.int .u8 0), 1, 1) by kernel_rfl)
  have hsz := hbel.size
  have e1 : Lib.strCells ⟨ss.toArray⟩ = ss.flatMap enByte := by
    rw [flatMap_one enByte (fun c : UInt8 => .int .u8 (c.toNat : Int)) (fun _ => rfl)]
    rfl
  have e2 : (⟨ss.toArray⟩ : ByteArray).size = ss.length := rfl
  refine Lib.wpList_append_own_string wr hgd s x _ _ ho base 5 i Tryz.underlying114 Tryz.underlying9 hi hz0 hz1 hz2 v xs.length (xs.flatMap enByte) hs hown ⟨ss.toArray⟩ hx (by rw [e2]; unfold maxLen; omega) (by rw [e2]; exact hbound) (by omega) fun v' w' h1 h2 _ => ?_
  refine h v' w' ?_ (hbel.grown h2 (by omega) (fun k hk => (World.ownsRow.lt hown k hk).1))
  unfold Owns
  rw [List.length_append, List.flatMap_append, ← e1]
  exact h1
end Go.Proofs.YtampdbkafkcfdaaGreatDoor

namespace Go.Proofs.YtampdbkafkcfdaaGreatDoor
set_option linter.unusedVariables false
open Go.RowKit

theorem wpList_append_sl {α : Type} {en : α → List Value} {P : Program} {w0 wr : World} {ops : Array Oper} {rest : List Oper} {o : Oper} {a : Act} {Q : Exit → Act → World → Prop} {s x : Operand} {t e : TypeId} {size bytes : Nat} (T : SlTy P t e size bytes)
    {base : Nat} {v : Value} (xs ys : List α) (hen : ∀ y, (en y).length = size) (hone : ∀ y ∈ ys, ∀ u ∈ en y, u.oneCell' = true) {p : Addr} {cap : Nat} (hys : SlOf wr en size (some p) cap ys)
    (hown : Owns wr base e size en v xs) (hbel : Below base w0 wr) (hbase : base ≤ w0.heap.size) (hbound : (xs.length + ys.length) * bytes ≤ 140737488355328)
    (h : ∀ v' w1, Owns w1 base e size en v' (xs ++ ys) → Below base w0 w1 → wpList P ops Q rest (a.put o.dst v') w1)
    (hgd : o.guard = none := by rfl) (ho : o.op = .call { callee := .builtin .append, args := #[s, x], argTypes := #[t, t] } := by rfl)
    (hs0 : a.eval s = v := by rfl) (hx : a.eval x = .slice (some p) ys.length cap := by rfl) : wpList P ops Q (o :: rest) a wr := by
  obtain ⟨hu, ⟨i, z, hi, hz, h1, h2, h3⟩, hp, hbp⟩ := T
  have hsz := hbel.size
  have hn : xs.length + ys.length ≤ maxLen := by
    have : (xs.length + ys.length) * 1 ≤ (xs.length + ys.length) * bytes := Nat.mul_le_mul_left _ hbp
    unfold maxLen
    omega
  have hnews : ∀ j u, (ys.flatMap en)[j]? = some u → wr.cell? (p.add j) = some u := by
    intro j u hu
    have hj : j < (ys.flatMap en).length := (List.getElem?_eq_some_iff.1 hu).1
    obtain ⟨b, off, e1, e2⟩ := Sl.at' hys j hj
    cases e1
    rw [Addr.add_lit, e2]
    exact hu
  have hone' : ∀ u ∈ ys.flatMap en, u.oneCell' = true := fun u hu => by
    obtain ⟨y, hm, hy⟩ := List.mem_flatMap.1 hu
    exact hone y hm u hy
  refine wpList_append_own _ hgd s x t ho base e i z size bytes hu hi hz h1 h2 h3 hp v xs.length (xs.flatMap en) hs0 hown p ys.length cap (ys.flatMap en) hx (by rw [flatMap_length hen]) hnews hone' hn hbound (by omega) ?_
  intro v' w' hown' hg _
  refine h v' w' ?_ (hbel.grown hg (by omega) (fun k hk => (World.ownsRow.lt hown k hk).1))
  unfold Owns
  rw [List.length_append, List.flatMap_append]
  exact hown'
end Go.Proofs.YtampdbkafkcfdaaGreatDoor
