/-
  LexLines of two strings.
-/
import Derived.Test.YtpcdmdhnfcfciaaDoorLexN
namespace Go.Proofs.YtpcdmdhnfcfciaaDoor
set_option linter.unusedVariables false
open Go.RowKit Go.Shelf

theorem lines_str (s t : ByteArray) (hs : s.size ≤ 9223372036854775807) (ht : t.size ≤ 9223372036854775807) (w : World) (hT : TabsU w) :
    Calls Tryd.prog 3 #[.string s, .string t] w fun e w' => e = .returned (.bool true) ∧ Below w.heap.size w w' := by
  have e : ∀ x : ByteArray, (⟨x.data.toList.toArray⟩ : ByteArray) = x := fun x => by cases x; simp
  have h := lines_any s.data.toList t.data.toList (by rw [Array.length_toList]; exact hs) (by rw [Array.length_toList]; exact ht) w hT
  rw [e, e] at h
  exact h
end Go.Proofs.YtpcdmdhnfcfciaaDoor
