/-
  Layer 7's reference: File: contract.
-/
import Derived.Test.YtampdbkafkcfdaaGreatDoorPrnU
import Derived.Test.YtampdbkafkcfdaaGreatDoorAppB
import Derived.Test.YtampdbkafkcfdaaGreatDoorNodB

namespace Go.Proofs.YtampdbkafkcfdaaGreatDoor
set_option linter.unusedVariables false
open Go.RowKit Go.Shelf

structure DbOK (d : DbD) : Prop where
  tx : d.ver.text.length ≤ 100000000
  nn : d.sta.names.length ≤ 4000000
  nm : ∀ r ∈ d.sta.names, r.length ≤ 100000000
  ms : ∀ m ∈ d.msgs, MsgOK m
  tb : ∀ t ∈ d.tabs, TabOK t
def headB (d : DbD) : Bool := (!d.has || verB d.ver) && staB d.sta
theorem names_len (l : List (List UInt8)) (hb : l.all wordB = true) : (l.flatMap fun x => 32 :: x).length ≤ 65 * l.length := by
  induction l with
  | nil => simp
  | cons x l ih =>
    rw [List.all_cons, Bool.and_eq_true] at hb
    have h1 := ih hb.2
    have h2 := word_len hb.1
    rw [List.flatMap_cons, List.length_append, List.length_cons, List.length_cons]
    omega

end Go.Proofs.YtampdbkafkcfdaaGreatDoor

namespace Go.Proofs.YtampdbkafkcfdaaGreatDoor
set_option linter.unusedVariables false
open Go.RowKit Go.Shelf

theorem msgT_len (m : MsgD) (h : MsgOK m) (hb : msgB m = true) : (linesT (msgL m)).length ≤ 20000000000 := by
  unfold msgB at hb
  simp only [Bool.and_eq_true, decide_eq_true_eq] at hb
  obtain ⟨b1, b2, b3, b4, b5, b6⟩ := hb
  have h1 := sigs_len m.sigs h.sg b6
  have h2 := word_len b2
  have h3 := word_len b3
  have h4 := numT_len m.id m.wide b1
  have h5 := itoa7_len m.size h.sz
  have e : linesT (msgL m) = ([10] ++ (msgH m ++ [10])) ++ linesT (m.sigs.map fun s => 32 :: sxT s) := by unfold msgL; simp [linesT]
  rw [e]
  unfold msgH
  generalize (linesT (m.sigs.map fun s => 32 :: sxT s)) = Z at *
  generalize numT m.id m.wide = N at *
  generalize Lib.itoa m.size = I at *
  simp only [List.length_append, List.length_cons, List.length_nil]
  omega
theorem tabT_len (t : TabD) (h : TabOK t) (hb : tabB t = true) : (tabT t ++ [10]).length ≤ 3000000 := by
  unfold tabB at hb
  simp only [Bool.and_eq_true, decide_eq_true_eq] at hb
  obtain ⟨b1, b2, b3, b4⟩ := hb
  have h1 := rows_len t.rows (fun r hr => (h.rw r hr).1) b4
  have h2 := word_len b2
  have h4 := numT_len t.id t.wide b1
  unfold tabT
  generalize t.rows.flatMap rowT = Z at *
  generalize numT t.id t.wide = N at *
  simp only [List.length_append, List.length_cons, List.length_nil]
  omega
theorem msgs_len (l : List MsgD) (h : ∀ m ∈ l, MsgOK m) (hb : l.all msgB = true) : (l.flatMap fun m => linesT (msgL m)).length ≤ 20000000000 * l.length := by
  induction l with
  | nil => simp
  | cons x l ih =>
    rw [List.all_cons, Bool.and_eq_true] at hb
    have h1 := ih (fun y hy => h y (List.mem_cons_of_mem _ hy)) hb.2
    have h2 := msgT_len x (h x (by simp)) hb.1
    rw [List.flatMap_cons, List.length_append, List.length_cons]
    omega
theorem tabs_len (l : List TabD) (h : ∀ m ∈ l, TabOK m) (hb : l.all tabB = true) : (l.flatMap fun t => tabT t ++ [10]).length ≤ 3000000 * l.length := by
  induction l with
  | nil => simp
  | cons x l ih =>
    rw [List.all_cons, Bool.and_eq_true] at hb
    have h1 := ih (fun y hy => h y (List.mem_cons_of_mem _ hy)) hb.2
    have h2 := tabT_len x (h x (by simp)) hb.1
    rw [List.flatMap_cons, List.length_append, List.length_cons]
    omega
theorem head_len (d : DbD) (h : DbOK d) (hb : headB d = true) : (dbHead d).length ≤ 300000000 := by
  unfold headB at hb
  simp only [Bool.and_eq_true, Bool.or_eq_true, Bool.not_eq_true'] at hb
  obtain ⟨h1, h2⟩ := hb
  have h3 := names_len d.sta.names h2
  have h4 := h.nn
  unfold dbHead staT
  generalize (d.sta.names.flatMap fun z => 32 :: z) = Z at *
  cases hh : d.has
  · simp only [Bool.false_eq_true, if_false, List.nil_append, List.length_append, List.length_cons, List.length_nil]
    omega
  · have h5 := quo7_len d.ver.text (by rcases h1 with h1 | h1; · rw [hh] at h1; cases h1
                                       · exact h1)
    unfold verT
    generalize quoL d.ver.text = Q at *
    simp only [if_true, List.length_append, List.length_cons, List.length_nil]
    omega

def filN (d : DbD) : Nat := if dbB d = true then (if (dbT d).length ≤ 1048576 then 0 else 5) else 4
def filT (d : DbD) : List UInt8 := if filN d = 0 then dbT d else []
theorem dbB_eq (d : DbD) : dbB d = (headB d && (decide (d.msgs.length ≤ 512) && (d.msgs.all msgB && d.tabs.all tabB))) := by
  unfold dbB headB
  cases (!d.has || verB d.ver) <;> rfl
theorem fil_bad (d : DbD) (h : dbB d = false) : filN d = 4 ∧ filT d = [] := by
  have : filN d = 4 := by unfold filN; rw [h]; rfl
  exact ⟨this, by unfold filT; rw [this]; rfl⟩
theorem fil_long (d : DbD) (h : dbB d = true) (hl : ¬ (dbT d).length ≤ 1048576) : filN d = 5 ∧ filT d = [] := by
  have : filN d = 5 := by unfold filN; rw [if_pos h, if_neg hl]
  exact ⟨this, by unfold filT; rw [this]; rfl⟩
theorem fil_good (d : DbD) (h : dbB d = true) (hl : (dbT d).length ≤ 1048576) : filN d = 0 ∧ filT d = dbT d := by
  have : filN d = 0 := by unfold filN; rw [if_pos h, if_pos hl]
  exact ⟨this, by unfold filT; rw [if_pos this]⟩
theorem linesT_ne (m : MsgD) : 0 < (linesT (msgL m)).length := by unfold msgL; simp [linesT]
theorem Owns.some_of {α : Type} {w : World} {base : Nat} {e : TypeId} {size : Nat} {en : α → List Value} {v : Value} {xs : List α} (h : Owns w base e size en v xs) (hne : 0 < xs.length) : ∃ p cap, v = .slice (some p) xs.length cap ∧ SlOf w en size (some p) cap xs := by
  obtain ⟨g, cap, rfl, -⟩ := h.block hne
  exact ⟨_, _, rfl, h.sl.2⟩

end Go.Proofs.YtampdbkafkcfdaaGreatDoor
