/-
  Layer 7's small functions: word, small, order, role; the reference's Word, digits, whole, size, order, role: contracts.
-/
import Derived.Test.YtajnmbhcaogfoaaGreatDoorPrnA
import Derived.Test.YtajnmbhcaogfoaaGreatDoorBaseC
import Derived.Test.YtajnmbhcaogfoaaGreatDoorTxtF
namespace Go.Proofs.YtajnmbhcaogfoaaGreatDoor
set_option linter.unusedVariables false
open Go.RowKit Go.Shelf

def sizB (n : Int) : Bool := decide (0 ≤ n ∧ n < 2147483648)
theorem small_any (n : Int) (hn : -9223372036854775808 ≤ n ∧ n ≤ 9223372036854775807) (w : World) :
    Calls Tryz.prog 22 #[.int .i64 n] w fun e w' => e = .returned (.bool (sizB n)) ∧ w' = w := by
  by_cases h1 : 0 ≤ n
  · by_cases h2 : n < 2147483648
    · have HD := Lib.hid (show sizB n = true from decide_eq_true ⟨h1, h2⟩)
      go_enter Tryz.func22, Tryz.ntmps22
      go_wp2_with fail
      go_ret
      exact ⟨by rw [HD.out] <;> rfl, rfl⟩
    · have HD := Lib.hid (show sizB n = false from decide_eq_false (fun h => h2 h.2))
      go_enter Tryz.func22, Tryz.ntmps22
      go_wp2_with fail
      go_ret
      exact ⟨by rw [HD.out] <;> rfl, rfl⟩
  · have HD := Lib.hid (show sizB n = false from decide_eq_false (fun h => h1 h.1))
    go_enter Tryz.func22, Tryz.ntmps22
    go_wp2_with fail
    go_ret
    exact ⟨by rw [HD.out] <;> rfl, rfl⟩

theorem size7_any (n : Int) (hn : -9223372036854775808 ≤ n ∧ n ≤ 9223372036854775807) (w : World) :
    Calls Tryz.prog 10 #[.int .i64 n] w fun e w' => e = .returned (.bool (sizB n)) ∧ w' = w := by
  by_cases h1 : 0 ≤ n
  · by_cases h2 : n ≤ 2147483647
    · have HD := Lib.hid (show sizB n = true from decide_eq_true ⟨h1, by omega⟩)
      go_enter Tryz.func10, Tryz.ntmps10
      go_wp2_with fail
      go_ret
      exact ⟨by rw [HD.out] <;> rfl, rfl⟩
    · have HD := Lib.hid (show sizB n = false from decide_eq_false (fun h => by omega))
      go_enter Tryz.func10, Tryz.ntmps10
      go_wp2_with fail
      go_ret
      exact ⟨by rw [HD.out] <;> rfl, rfl⟩
  · have HD := Lib.hid (show sizB n = false from decide_eq_false (fun h => h1 h.1))
    go_enter Tryz.func10, Tryz.ntmps10
    go_wp2_with fail
    go_ret
    exact ⟨by rw [HD.out] <;> rfl, rfl⟩

/-- the words that are kept for the lines' heads -/
def keyL : List (List UInt8) := [[86, 69, 82, 83, 73, 79, 78], [66, 85, 95], [66, 79, 95], [83, 71, 95], [86, 65, 76, 95], [67, 77, 95]]
def wordB (s : List UInt8) : Bool := nameB s && !decide (s ∈ keyL)

set_option maxHeartbeats 1000000 in
theorem pword_any (s : List UInt8) (hs : s.length ≤ 9223372036854775807) (w : World) :
    Calls Tryz.prog 21 #[.string ⟨s.toArray⟩] w fun e w' => e = .returned (.bool (wordB s)) ∧ Below w.heap.size w w' := by
  have c := cname_any s hs w
  by_cases hk : s ∈ keyL
  · have HW := Lib.hid (show wordB s = false by unfold wordB; rw [decide_eq_true hk]; simp)
    clear c
    simp only [keyL, List.mem_cons, List.not_mem_nil, or_false] at hk
    rcases hk with rfl | rfl | rfl | rfl | rfl | rfl <;>
    · go_enter Tryz.func21, Tryz.ntmps21
      go_wp2_with fail
      go_ret
      exact ⟨by rw [HW.out] <;> rfl, Below.refl _ _⟩
  · have HW := Lib.hid (show wordB s = nameB s by unfold wordB; rw [decide_eq_false hk]; simp)
    have hne : ∀ t ∈ keyL, (s == t) = false := by
      intro t ht
      rw [beq_eq_false_iff_ne]
      intro e
      exact hk (e ▸ ht)
    have h1 := hne [86, 69, 82, 83, 73, 79, 78] (by decide)
    have h2 := hne [66, 85, 95] (by decide)
    have h3 := hne [66, 79, 95] (by decide)
    have h4 := hne [83, 71, 95] (by decide)
    have h5 := hne [86, 65, 76, 95] (by decide)
    have h6 := hne [67, 77, 95] (by decide)
    clear hne
    generalize nameB s = T at *
    go_enter Tryz.func21, Tryz.ntmps21
    go_wp2_with fail
    with_reducible refine c.mono ?_
    rintro e w1 ⟨rfl, hb⟩
    go_wp2_with fail
    go_ret
    exact ⟨by rw [HW.out] <;> rfl, hb⟩
end Go.Proofs.YtajnmbhcaogfoaaGreatDoor
