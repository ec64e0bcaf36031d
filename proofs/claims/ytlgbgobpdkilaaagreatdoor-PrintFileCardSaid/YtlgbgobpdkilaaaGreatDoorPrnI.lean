/-
  Layer 7: print.quoted: contract.
-/
import Derived.Test.YtlgbgobpdkilaaaGreatDoorPrnG
import Derived.Test.YtlgbgobpdkilaaaGreatDoorRplE
import Derived.Test.YtlgbgobpdkilaaaGreatDoorAppB
import Derived.Test.YtlgbgobpdkilaaaGreatDoorChrE

namespace Go.Proofs.YtlgbgobpdkilaaaGreatDoor
set_option linter.unusedVariables false
open Go.RowKit Go.Shelf

theorem owns_stringP {P : Program} {src dst e : TypeId} (hs : P.underlying src = some (.slice e)) (he : P.underlying e = some (.int .u8)) (hd : P.underlying dst = some .string)
    {w : World} {base : Nat} {v : Value} {l : List UInt8} (h : Owns w base e 1 enByte v l) : (convert src dst v).run P w = .ok (.string ⟨l.toArray⟩) w := by
  rcases h.2 with ⟨hv, h0⟩ | ⟨g, cap, cur, hv, _⟩
  · have : l = [] := List.length_eq_zero_iff.1 h0
    subst this
    rw [hv, run_convert_bytes_string w src dst e none 0 0 hs he hd]
    rfl
  · rw [hv] at h ⊢
    refine run_convert_bytes_back w src dst e ⟨g, 0, none⟩ cap l hs he hd fun j hj => ?_
    obtain ⟨b, o, e1, _, hc⟩ := SlOf.cell1 h.sl.2 (fun x : UInt8 => .int .u8 (x.toNat : Int)) (fun _ => rfl) hj
    cases e1
    rw [Addr.add_lit]
    exact hc

set_option maxHeartbeats 4000000 in
theorem rquote_any (s : List UInt8) (hs : s.length ≤ 10000000) (w : World) :
    Calls Tryz.prog 69 #[.string ⟨s.toArray⟩] w fun e w' => e = .returned (.string ⟨(quoL s).toArray⟩) ∧ Below w.heap.size w w' := by
  go_enter Tryz.func69, Tryz.ntmps69
  go_wp2_with fail
  have ho0 : Owns (w.alloc (.cells #[.int .u8 34] 5)) w.heap.size 5 1 enByte (.slice (some ⟨w.heap.size, 0, none⟩) 1 1) [34] := Owns.lit w w.heap.size enByte 1 enByte_len [34] _ _ 1 rfl rfl (by decide) (Nat.le_refl _)
  go_loopw [3, 4] (fun v x wr => ∃ i : Nat, i ≤ s.length ∧ x = .int .i64 (i : Nat) ∧ Below w.heap.size w wr ∧ Owns wr w.heap.size 5 1 enByte v (34 :: escQ (s.take i))) (fun _ x _ => s.length - (intOf x).toNat)
  case atStart => exact ⟨0, Nat.zero_le _, rfl, (Below.refl _ _).alloc (Nat.le_refl _) _, ho0⟩
  case round =>
    clear ho0
    obtain ⟨i, hi, rfl, hb, hown⟩ := hrel
    obtain ⟨av, cv, hv, hsv⟩ := hown.shape
    subst hv
    have hlen : (34 :: escQ (s.take i)).length ≤ 4 * i + 1 := by
      have h1 := escQ_len (s.take i)
      have h2 : cqL (s.take i) ≤ 2 * (s.take i).length := by
        unfold cqL
        have := List.count_le_length (a := (34 : UInt8)) (l := s.take i)
        have := List.count_le_length (a := (92 : UInt8)) (l := s.take i)
        omega
      rw [List.length_take] at h1 h2
      simp only [List.length_cons]
      omega
    have HQ : Hid (∀ h : i < s.length, 34 :: escQ (s.take (i + 1)) = (34 :: escQ (s.take i)) ++ escB s[i]) := Lib.hid (fun h => by rw [escQ_take s i h]; rfl)
    have HALL : Hid (i = s.length → (34 :: escQ (s.take i)) ++ [34] = quoL s) := Lib.hid (fun h => by rw [h, List.take_length]; rfl)
    generalize 34 :: escQ (s.take i) = qs at *
    by_cases hlt : (i : Int) < s.length
    · have hlt' : i < s.length := by omega
      have hget : (⟨s.toArray⟩ : ByteArray)[i]'hlt' = s[i] := rfl
      have hq2 := HQ.out hlt'
      obtain ⟨c, hc⟩ : ∃ c, c = s[i] := ⟨_, rfl⟩
      rw [← hc] at hget hq2
      unfold escB at hq2
      have HQ2 := Lib.hid hq2
      clear hc hq2 HQ HALL
      have hcl := c.toNat_lt
      by_cases c34 : c = 34
      · subst c34
        rw [if_pos (.inr rfl)] at HQ2
        go_wp2_with (at_builtin; go_loud (refine wpList_append_elem bytes_ty qs (92 : UInt8) hown hb (Nat.le_refl _) (by simp; omega) ?_ (hone := by simp [enByte, Value.oneCell'])))
        intro v' w5 hown5 hb5
        go_wp2_with (at_builtin; go_loud (refine wpList_append_elem bytes_ty (qs ++ [92]) (34 : UInt8) hown5 hb5 (Nat.le_refl _) (by simp; omega) ?_ (hone := by simp [enByte, Value.oneCell'])))
        intro v6 w6 hown6 hb6
        go_wp2_with fail
        go_roundw
        case rel => exact ⟨i + 1, by omega, by go_num, hb6, by rw [HQ2.out]; simpa using hown6⟩
        case measure => simp [intOf]; omega
      · have n34 : ((c.toNat : Int) == 34) = false := by rw [beq_eq_false_iff_ne]; intro h; exact c34 (UInt8.toNat_inj.1 (by simpa using (by omega : c.toNat = 34)))
        by_cases c92 : c = 92
        · subst c92
          rw [if_pos (.inl rfl)] at HQ2
          go_wp2_with (at_builtin; go_loud (refine wpList_append_elem bytes_ty qs (92 : UInt8) hown hb (Nat.le_refl _) (by simp; omega) ?_ (hone := by simp [enByte, Value.oneCell'])))
          intro v' w5 hown5 hb5
          go_wp2_with (at_builtin; go_loud (refine wpList_append_elem bytes_ty (qs ++ [92]) (92 : UInt8) hown5 hb5 (Nat.le_refl _) (by simp; omega) ?_ (hone := by simp [enByte, Value.oneCell'])))
          intro v6 w6 hown6 hb6
          go_wp2_with fail
          go_roundw
          case rel => exact ⟨i + 1, by omega, by go_num, hb6, by rw [HQ2.out]; simpa using hown6⟩
          case measure => simp [intOf]; omega
        · have n92 : ((c.toNat : Int) == 92) = false := by rw [beq_eq_false_iff_ne]; intro h; exact c92 (UInt8.toNat_inj.1 (by simpa using (by omega : c.toNat = 92)))
          rw [if_neg (by simp [c34, c92])] at HQ2
          go_wp2_with (at_builtin; go_loud (refine wpList_append_elem bytes_ty qs (c : UInt8) hown hb (Nat.le_refl _) (by simp; omega) ?_ (hone := by simp [enByte, Value.oneCell'])))
          intro v6 w6 hown6 hb6
          go_wp2_with fail
          go_roundw
          case rel => exact ⟨i + 1, by omega, by go_num, hb6, by rw [HQ2.out]; exact hown6⟩
          case measure => simp [intOf]; omega
    · have HA := Lib.hid (HALL.out (by omega))
      clear HQ HALL
      go_wp2_with (at_builtin; go_loud (refine wpList_append_elem bytes_ty qs (34 : UInt8) hown hb (Nat.le_refl _) (by simp; omega) ?_ (hone := by simp [enByte, Value.oneCell'])))
      intro v5 w5 hown5 hb5
      rw [HA.out] at hown5
      obtain ⟨a5, c5, hv5, _⟩ := hown5.shape
      subst hv5
      have hconv := owns_stringP (P := Tryz.prog) Tryz.underlying95 Tryz.underlying5 Tryz.underlying9 hown5
      go_wp2_with fail
      go_ret
      exact ⟨rfl, hb5⟩
end Go.Proofs.YtlgbgobpdkilaaaGreatDoor

namespace Go.Proofs.YtlgbgobpdkilaaaGreatDoor
set_option linter.unusedVariables false
open Go.RowKit Go.Shelf

def goodB : UnqR → Bool
  | .bad _ => false
  | .good _ => true

set_option maxRecDepth 100000 in
set_option maxHeartbeats 1000000 in
theorem quoted_any (s : List UInt8) (hs : s.length ≤ 100000000) (w : World) (hT : TabsU w) :
    Calls Tryz.prog 35 #[.string ⟨s.toArray⟩] w fun e w' => e = .returned (.tuple #[.string ⟨(quoL s).toArray⟩, .bool (goodB (unqL (quoL s)))]) ∧ Below w.heap.size w w' := by
  have cq := quote_any s (by omega) w
  have hql : (quoL s).length ≤ 1000000000 := by
    have h1 := escQ_len s
    have h2 : cqL s ≤ 2 * s.length := by
      unfold cqL
      have := List.count_le_length (a := (34 : UInt8)) (l := s)
      have := List.count_le_length (a := (92 : UInt8)) (l := s)
      omega
    simp only [quoL, List.length_append, List.length_cons, List.length_nil]
    omega
  have cu := fun W hW => unquote_any (quoL s) hql W hW
  have hk := fun W (h : Below w.heap.size w W) => TabsU.keep hT h
  have HG := Lib.hid (show ∀ U : UnqR, goodB U = (match U with | .bad _ => false | .good _ => true) from fun U => by cases U <;> rfl)
  generalize unqL (quoL s) = U at *
  obtain ⟨G, hG⟩ : ∃ G, G = goodB U := ⟨_, rfl⟩
  rw [← hG]
  generalize quoL s = Q at *
  go_enter Tryz.func35, Tryz.ntmps35
  go_wp2_with fail
  with_reducible refine cq.mono ?_
  rintro e w1 ⟨rfl, hb⟩
  have cu1 := cu w1 (hk w1 hb)
  clear cu hk cq hT
  go_wp2_with fail
  with_reducible refine cu1.mono ?_
  rintro e w2 ⟨rfl, hb2⟩
  have hb3 := bstep hb hb2 (Nat.le_refl _)
  clear cu1
  cases U with
  | bad n =>
    have HG2 := Lib.hid (show G = false from hG)
    clear hG HG
    unfold unqV errV
    go_wp2_with fail
    all_goals (try go_region_with fail)
    all_goals (try go_wp2_with fail)
    go_ret2
    refine ⟨by rw [HG2.out] <;> rfl, ?_⟩
    first | exact hb3 | exact hb3.trans (Go.below_drewN (Below.refl _ _) _) | exact bstep hb3 (Go.below_drewN (Below.refl _ _) _) (Nat.le_refl _)
  | good l =>
    have HG2 := Lib.hid (show G = true from hG)
    clear hG HG
    unfold unqV
    go_wp2_with fail
    all_goals (try go_region_with fail)
    all_goals (try go_wp2_with fail)
    go_ret2
    refine ⟨by rw [HG2.out] <;> rfl, ?_⟩
    first | exact hb3 | exact hb3.trans (Go.below_drewN (Below.refl _ _) _) | exact bstep hb3 (Go.below_drewN (Below.refl _ _) _) (Nat.le_refl _)
end Go.Proofs.YtlgbgobpdkilaaaGreatDoor
