/-
  Layer 7: print.quoted: contract.
-/
import Derived.Test.YtampdbkafkcfdaaGreatDoorPrnG
import Derived.Test.YtampdbkafkcfdaaGreatDoorRplE
import Derived.Test.YtampdbkafkcfdaaGreatDoorAppB
import Derived.Test.YtampdbkafkcfdaaGreatDoorChrE

namespace Go.Proofs.YtampdbkafkcfdaaGreatDoor
set_option linter.unusedVariables false
open Go.RowKit Go.Shelf

theorem owns_stringP {P : Program} {src dst e : TypeId} (hs : P.underlying src = some (.slice e)) (he : P.underlying e = some (.int .u8)) (hd : P.underlying dst = some .string)
    {w : World} {base : Nat} {v : Value} {l : List UInt8} (h : Owns w base e 1 enByte v l) : (convert src dst v).run P w = .ok (.string ⟨l.toArray⟩) w := by
  rcases h.2 with ⟨hv, h0⟩ | ⟨g, cap, cur, hv, _⟩
  · have : l = [] := List.length_eq_zero_iff.1 h0
    subst this
    rw [hv, run_convert_bytes_string w src dst e none 0 0 hs he hd]
    rfl
  · rw [hv] at h ⊢
    refine run_convert_bytes_back w src dst e ⟨g, 0, none⟩ cap l hs he hd fun j hj => ?_
    obtain ⟨b, o, e1, _, hc⟩ := SlOf.cell1 h.sl.2 (fun x : UInt8 => .int .u8 (x.toNat : Int)) (fun _ => rfl) hj
    cases e1
    rw [Addr.add_lit]
    exact hc

end Go.Proofs.YtampdbkafkcfdaaGreatDoor

namespace Go.Proofs.YtampdbkafkcfdaaGreatDoor
set_option linter.unusedVariables false
open Go.RowKit Go.Shelf

def goodB : UnqR → Bool
  | .bad _ => false
  | .good _ => true

set_option maxRecDepth 100000 in
set_option maxHeartbeats 1000000 in
theorem quoted_any (s : List UInt8) (hs : s.length ≤ 100000000) (w : World) (hT : TabsU w) :
    Calls Tryz.prog 31 #[.string ⟨s.toArray⟩] w fun e w' => e = .returned (.tuple #[.string ⟨(quoL s).toArray⟩, .bool (goodB (unqL (quoL s)))]) ∧ Below w.heap.size w w' := by
  have cq := quote_any s (by omega) w
  have hql : (quoL s).length ≤ 1000000000 := by
    have h1 := escQ_len s
    have h2 : cqL s ≤ 2 * s.length := by
      unfold cqL
      have := List.count_le_length (a := (34 : UInt8)) (l := s)
      have := List.count_le_length (a := (92 : UInt8)) (l := s)
      omega
    simp only [quoL, List.length_append, List.length_cons, List.length_nil]
    omega
  have cu := fun W hW => unquote_any (quoL s) hql W hW
  have hk := fun W (h : Below w.heap.size w W) => TabsU.keep hT h
  have HG := Lib.hid (show ∀ U : UnqR, goodB U = (match U with | .bad _ => false | .good _ => true) from fun U => by cases U <;> rfl)
  generalize unqL (quoL s) = U at *
  obtain ⟨G, hG⟩ : ∃ G, G = goodB U := ⟨_, rfl⟩
  rw [← hG]
  generalize quoL s = Q at *
  go_enter Tryz.func31, Tryz.ntmps31
  go_wp2_with fail
  with_reducible refine cq.mono ?_
  rintro e w1 ⟨rfl, hb⟩
  have cu1 := cu w1 (hk w1 hb)
  clear cu hk cq hT
  go_wp2_with fail
  with_reducible refine cu1.mono ?_
  rintro e w2 ⟨rfl, hb2⟩
  have hb3 := bstep hb hb2 (Nat.le_refl _)
  clear cu1
  cases U with
  | bad n =>
    have HG2 := Lib.hid (show G = false from hG)
    clear hG HG
    unfold unqV errV
    go_wp2_with fail
    all_goals (try go_region_with fail)
    all_goals (try go_wp2_with fail)
    go_ret2
    refine ⟨by rw [HG2.out] <;> rfl, ?_⟩
    first | exact hb3 | exact hb3.trans (Go.below_drewN (Below.refl _ _) _) | exact bstep hb3 (Go.below_drewN (Below.refl _ _) _) (Nat.le_refl _)
  | good l =>
    have HG2 := Lib.hid (show G = true from hG)
    clear hG HG
    unfold unqV
    go_wp2_with fail
    all_goals (try go_region_with fail)
    all_goals (try go_wp2_with fail)
    go_ret2
    refine ⟨by rw [HG2.out] <;> rfl, ?_⟩
    first | exact hb3 | exact hb3.trans (Go.below_drewN (Below.refl _ _) _) | exact bstep hb3 (Go.below_drewN (Below.refl _ _) _) (Nat.le_refl _)
end Go.Proofs.YtampdbkafkcfdaaGreatDoor
