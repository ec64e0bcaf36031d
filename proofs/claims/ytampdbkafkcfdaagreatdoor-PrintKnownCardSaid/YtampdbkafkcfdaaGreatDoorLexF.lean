/-
  lex.Scan: contract (what a scan answers).
-/
import Derived.Test.YtampdbkafkcfdaaGreatDoorLexE
import Derived.Test.YtampdbkafkcfdaaGreatDoorBaseC
namespace Go.Proofs.YtampdbkafkcfdaaGreatDoor
set_option linter.unusedVariables false
open Go.RowKit Go.Shelf

inductive TokR where
  | bad (e : Nat)
  | good (k : Int) (t : List UInt8) (n : Nat)
def TokR.val : TokR → Value
  | .bad e => tokE e
  | .good k t n => tokG k t n
def textR (s : List UInt8) : TokR := match endQ false 1 (s.drop 1) with
  | none => .bad 6
  | some i => match unqL (s.take (i + 1)) with
    | .bad n => if n = 5 then .bad 5 else .bad 6
    | .good t => .good 3 t (i + 1)
def tokR (s : List UInt8) : TokR :=
  if ltU (decL s).1 = true then .good 1 (s.take (nameN s)) (nameN s)
  else if (dgU (decL s).1 || sgC (decL s).1 s) = true then (if numN s = 0 then .bad 8 else .good 2 (s.take (numN s)) (numN s))
  else if (decL s).1 = 34 then textR s
  else if sgU (decL s).1 = true then .good 4 (s.take 1) 1
  else if ordB s = true then .good 4 (s.take 3) 3 else .bad 7
theorem textR_val (s : List UInt8) : textT s = (textR s).val := by
  unfold textT textF textR
  split
  · rename_i h; rw [h]; rfl
  · rename_i i h
    rw [h]
    simp only
    cases unqL (s.take (i + 1)) with
    | bad n => simp only; split <;> rfl
    | good t => rfl
theorem tokR_val (s : List UInt8) : tokT s = (tokR s).val := by
  unfold tokT tokR
  split
  · rfl
  · split
    · split <;> rfl
    · split
      · exact textR_val s
      · split
        · rfl
        · split <;> rfl
/-- what is wrong, or how far the token goes -/
def TokR.ok (s : List UInt8) : TokR → Prop
  | .bad e => 0 < e ∧ e < 9
  | .good k t n => n ≤ s.length ∧ 1 ≤ k ∧ k ≤ 4
theorem tokR_ok (s : List UInt8) (hne : s ≠ []) : (tokR s).ok s := by
  have hpos : 0 < s.length := List.length_pos_iff.2 hne
  unfold tokR
  split
  · exact ⟨nameN_le s, by decide, by decide⟩
  · split
    · split
      · exact ⟨by decide, by decide⟩
      · exact ⟨numN_le s, by decide, by decide⟩
    · split
      · unfold textR
        split
        · exact ⟨by decide, by decide⟩
        · rename_i i h
          split
          · split <;> exact ⟨by decide, by decide⟩
          · exact ⟨by have := endQ_lt _ _ _ _ h; rw [List.length_drop] at this; omega, by decide, by decide⟩
      · split
        · exact ⟨by omega, by decide, by decide⟩
        · split
          · rename_i h
            refine ⟨?_, by decide, by decide⟩
            rcases Nat.lt_or_ge s.length 3 with h3 | h3
            · exfalso
              unfold ordB at h
              have hl3 : (s.take 3).length < 3 := by rw [List.length_take]; omega
              have hb : ∀ a b c, (s.take 3 == [a, b, c]) = false := fun a b c => by
                rw [beq_eq_false_iff_ne]; intro e; rw [e] at hl3; simp at hl3
              rw [hb, hb, hb, hb] at h; exact absurd h (by decide)
            · exact h3
          · exact ⟨by decide, by decide⟩

/-- a token with its place -/
structure TokD where
  kind : Int
  text : List UInt8
  line : Int
  col : Int
def enTok (t : TokD) : List Value := [.int .i64 t.kind, .string ⟨t.text.toArray⟩, .int .i64 t.line, .int .i64 t.col]
theorem enTok_len (t : TokD) : (enTok t).length = 4 := rfl
inductive ScanR where
  | bad (v : Value)
  | good (l : List TokD)
def endTok (p : Int × Int) : TokD := ⟨0, [], p.1, p.2⟩
def scanF : Nat → List UInt8 → Nat → Int × Int → List TokD → ScanR
  | 0, _, _, p, acc => .good (acc ++ [endTok p])
  | f + 1, s, skip, p, acc =>
    if s = [] then .good (acc ++ [endTok p])
    else if skip = 0 ∧ blankU (decL s).1 = false then
      match tokR s with
      | .bad e => .bad (faultV (e : Nat) p.1 p.2)
      | .good k t n => scanF f (s.drop (decL s).2) (n - (decL s).2) (nextP p (decL s).1) (acc ++ [⟨k, t, p.1, p.2⟩])
    else scanF f (s.drop (decL s).2) (skip - (decL s).2) (nextP p (decL s).1) acc
def scanL (s : List UInt8) : ScanR :=
  if 1048576 < s.length then .bad (errV 5) else match checkL s with
    | none => scanF s.length s 0 (1, 1) []
    | some u => .bad (faultV 6 u.line u.col)
theorem scan_nil (f : Nat) (skip : Nat) (p : Int × Int) (acc : List TokD) : scanF f [] skip p acc = .good (acc ++ [endTok p]) := by
  cases f <;> simp [scanF]
theorem Owns.setOther {α : Type} {w : World} {base : Nat} {e : TypeId} {size : Nat} {en : α → List Value} {v : Value} {xs : List α} (h : Owns w base e size en v xs) {p : Addr} (hp : ∀ k, v.ownBlock = some k → p.block ≠ k) (u : Value) : Owns (w.setCell p u) base e size en v xs := by
  refine ⟨h.1, ?_⟩
  rcases h.2 with h0 | ⟨g, cap, cur, hv, h1, h2, h3⟩
  · exact .inl h0
  · refine .inr ⟨g, cap, cur, hv, h1, ?_, h3⟩
    rw [Below.heap_setCell w p u g (Ne.symm (hp g (by rw [hv]; rfl)))]
    exact h2
theorem checkV_or (s : List UInt8) : (checkV s = .nilIface ∧ s.length ≤ 1048576 ∧ scanL s = scanF s.length s 0 (1, 1) []) ∨ ∃ T d, checkV s = .iface T d ∧ scanL s = .bad (.iface T d) := by
  unfold checkV scanL
  split
  · exact .inr ⟨_, _, rfl, rfl⟩
  · split
    · rename_i h; rw [h]; exact .inl ⟨rfl, by omega, rfl⟩
    · rename_i h; rw [h]; exact .inr ⟨_, _, rfl, rfl⟩
end Go.Proofs.YtampdbkafkcfdaaGreatDoor
