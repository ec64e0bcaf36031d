/-
  The reference of chapter 03: Unquote: contract.
-/
import Derived.Test.YtmifjfohanegiaaGreatDoorRlxI
import Derived.Test.YtmifjfohanegiaaGreatDoorChrE
import Derived.Test.YtmifjfohanegiaaGreatDoorByteK
namespace Go.Proofs.YtmifjfohanegiaaGreatDoor
set_option linter.unusedVariables false
open Go.RowKit Go.Shelf

theorem u8_beqR (c : UInt8) (k : Nat) (hk : k < 256) : ((c.toNat : Int) == (k : Int)) = (c == UInt8.ofNat k) := by
  rw [Bool.eq_iff_iff, beq_iff_eq, beq_iff_eq]
  constructor
  · intro h; exact UInt8.toNat.inj (by rw [UInt8.toNat_ofNat_of_lt' (by simpa using hk)]; omega)
  · intro h; rw [h, UInt8.toNat_ofNat_of_lt' (by simpa using hk)]
theorem u8_neR {c : UInt8} {k : Nat} (hk : k < 256) (h : c ≠ UInt8.ofNat k) : ((c.toNat : Int) == (k : Int)) = false := by
  rw [u8_beqR c k hk]; simpa using h
theorem u8_neB {c : UInt8} {k : Nat} (hk : k < 256) (h : c ≠ UInt8.ofNat k) : ((c.toNat : Int) != (k : Int)) = true := by
  rw [bne, u8_neR hk h]; rfl
/-- a slice of bytes of the call's own, as a string -/
theorem owns_stringR {P : Program} {src dst e : TypeId} (hs : P.underlying src = some (.slice e)) (he : P.underlying e = some (.int .u8)) (hd : P.underlying dst = some .string)
    {w : World} {base : Nat} {v : Value} {l : List UInt8} (h : Owns w base e 1 enByte v l) : (convert src dst v).run P w = .ok (.string ⟨l.toArray⟩) w := by
  rcases h.2 with ⟨hv, h0⟩ | ⟨g, cap, cur, hv, _⟩
  · have : l = [] := List.length_eq_zero_iff.1 h0
    subst this
    rw [hv, run_convert_bytes_string w src dst e none 0 0 hs he hd]
    rfl
  · rw [hv] at h ⊢
    refine run_convert_bytes_back w src dst e ⟨g, 0, none⟩ cap l hs he hd fun j hj => ?_
    obtain ⟨b, o, e1, _, hc⟩ := SlOf.cell1 h.sl.2 (fun x : UInt8 => .int .u8 (x.toNat : Int)) (fun _ => rfl) hj
    cases e1
    rw [Addr.add_lit]
    exact hc
def unq3V : UnqR → Value
  | .bad n => .tuple #[.string ⟨#[]⟩, .int .i64 (n : Nat)]
  | .good l => .tuple #[.string ⟨l.toArray⟩, .int .i64 0]

set_option maxRecDepth 100000 in
set_option maxHeartbeats 4000000 in
theorem unquote3_any (s : List UInt8) (hs : s.length ≤ 1000000000) (w : World) :
    Calls Tryz.prog 138 #[.string ⟨s.toArray⟩] w fun e w' => e = .returned (unq3V (unqL s)) ∧ Below w.heap.size w w' := by
  obtain ⟨V, hV⟩ : ∃ V, V = unq3V (unqL s) := ⟨_, rfl⟩
  rw [← hV]
  have HV := Lib.hid hV
  clear hV
  by_cases h2 : (s.length : Int) < 2
  · have HN := Lib.hid (show V = .tuple #[.string ⟨#[]⟩, .int .i64 2] by
      rw [HV.out]
      rcases s with _ | ⟨a, _ | ⟨b, t⟩⟩
      · rfl
      · rfl
      · simp at h2; omega)
    clear HV
    go_enter Tryz.func138, Tryz.ntmps138
    go_wp2_with fail
    go_ret2
    exact ⟨by rw [HN.out] <;> rfl, Below.refl _ _⟩
  have h0 : 0 < s.length := by omega
  have hget : (⟨s.toArray⟩ : ByteArray)[0]'h0 = s[0] := rfl
  by_cases hq : s[0] = 34
  case neg =>
    have HN := Lib.hid (show V = .tuple #[.string ⟨#[]⟩, .int .i64 4] by
      rw [HV.out]
      rcases s with _ | ⟨a, _ | ⟨b, t⟩⟩
      · simp at h0
      · simp at h2
      · show unq3V (if a = 34 then _ else _) = _
        rw [if_neg (show ¬ a = 34 from hq)]; rfl)
    have g34 : ((s[0].toNat : Int) != 34) = true := u8_neB (k := 34) (by decide) hq
    generalize s[0] = c at *
    clear HV hq
    go_enter Tryz.func138, Tryz.ntmps138
    go_wp2_with fail
    go_ret2
    exact ⟨by rw [HN.out] <;> rfl, Below.refl _ _⟩
  case pos =>
    have hst : V = unq3V (unqEnd (unq [] (s.drop 1))) := by
      rw [HV.out]
      rcases s with _ | ⟨a, _ | ⟨b, t⟩⟩
      · simp at h0
      · simp at h2
      · show unq3V (if a = 34 then _ else _) = _
        rw [if_pos (show a = 34 from hq)]; rfl
    have HS := Lib.hid hst
    have g34 : ((s[0].toNat : Int) != 34) = false := by rw [hq]; rfl
    generalize s[0] = c0 at *
    clear HV hq hst
    go_enter Tryz.func138, Tryz.ntmps138
    go_wp2_with fail
    go_loopw [4, 5] (fun v x wr => ∃ (k : Nat) (acc : List UInt8), x = .int .i64 (k : Nat) ∧ 1 ≤ k ∧ k ≤ s.length ∧ acc.length ≤ k ∧ V = unq3V (unqEnd (unq acc (s.drop k))) ∧ Owns wr w.heap.size 5 1 enByte v acc ∧ Below w.heap.size w wr) (fun _ x _ => s.length - (intOf x).toNat)
    case atStart => exact ⟨1, [], rfl, Nat.le_refl _, by omega, Nat.zero_le _, HS.out, Owns.nil _ _ _ _ _, Below.refl _ _⟩
    case round =>
      clear HS hget g34
      obtain ⟨k, acc, rfl, hk1, hk, hacc, hVk, hown, hb⟩ := hrel
      obtain ⟨av, cv, rfl, hsv⟩ := hown.shape
      by_cases hlt : (s.length : Int) ≤ (k : Int)
      · have HN := Lib.hid (show V = .tuple #[.string ⟨#[]⟩, .int .i64 2] by
          rw [hVk, List.drop_eq_nil_of_le (by omega), unq_nil]; rfl)
        clear hVk
        go_wp2_with fail
        go_ret2
        exact ⟨by rw [HN.out] <;> rfl, hb⟩
      · have hlt' : k < s.length := by omega
        have hget : (⟨s.toArray⟩ : ByteArray)[k]'hlt' = s[k] := rfl
        have hd := List.drop_eq_getElem_cons hlt'
        rw [hd] at hVk
        by_cases h34 : s[k] = 34
        · have g : ((s[k].toNat : Int) == 34) = true := by rw [h34]; rfl
          rw [h34, unq_quote] at hVk
          have HVK := Lib.hid hVk
          generalize s[k] = c at *
          clear hd h34 hVk
          by_cases hlong : (k : Int) + 1 < s.length
          · have HN := Lib.hid (show V = .tuple #[.string ⟨#[]⟩, .int .i64 3] by
              rw [HVK.out]
              show unq3V (if s.drop (k + 1) = [] then _ else _) = _
              rw [if_neg (by intro h; have := congrArg List.length h; rw [List.length_drop] at this; simp at this; omega)]; rfl)
            clear HVK
            go_wp2_with fail
            go_ret2
            exact ⟨by rw [HN.out] <;> rfl, hb⟩
          · have HN := Lib.hid (show V = unq3V (unqFin acc) by
              rw [HVK.out]
              show unq3V (if s.drop (k + 1) = [] then _ else _) = _
              rw [if_pos (List.drop_eq_nil_of_le (by omega))])
            have hconv := owns_stringR (P := Tryz.prog) Tryz.underlying108 Tryz.underlying5 Tryz.underlying9 hown
            have cm := may3_any acc (by omega) wr
            have HB := Lib.hid hb
            have HO := Lib.hid hown
            clear HVK hb hown
            go_wp2_with fail
            with_reducible refine cm.mono ?_
            rintro e w1 ⟨rfl, hb1⟩
            have hown1 := HO.out.keep hb1 (Nat.le_refl _)
            have hconv1 := owns_stringR (P := Tryz.prog) Tryz.underlying108 Tryz.underlying5 Tryz.underlying9 hown1
            have HB1 := Lib.hid (bstep HB.out hb1 (Nat.le_refl _))
            clear hb1 hown1 hconv cm HO
            by_cases hm : mayN acc = 0
            · have HM := Lib.hid (show V = .tuple #[.string ⟨acc.toArray⟩, .int .i64 0] by rw [HN.out]; unfold unqFin; rw [if_pos hm]; rfl)
              rw [hm]
              clear hm HN
              go_wp2_with fail
              go_ret2
              exact ⟨by rw [HM.out] <;> rfl, HB1.out⟩
            · have HM := Lib.hid (show V = .tuple #[.string ⟨#[]⟩, .int .i64 (mayN acc : Nat)] by rw [HN.out]; unfold unqFin; rw [if_neg hm]; rfl)
              have hm2 : ((mayN acc : Int) != 0) = true := by rw [bne_iff_ne]; omega
              generalize mayN acc = m at *
              clear hm HN
              go_wp2_with fail
              go_ret2
              exact ⟨by rw [HM.out] <;> rfl, HB1.out⟩
        · have g : ((s[k].toNat : Int) == 34) = false := u8_neR (k := 34) (by decide) h34
          by_cases h92 : s[k] = 92
          · have g2 : ((s[k].toNat : Int) == 92) = true := by rw [h92]; rfl
            rw [h92] at hVk
            by_cases hlt2 : (s.length : Int) ≤ (k : Int) + 1
            · have HN := Lib.hid (show V = .tuple #[.string ⟨#[]⟩, .int .i64 4] by
                rw [hVk, List.drop_eq_nil_of_le (by omega), unq_esc_end]; rfl)
              generalize s[k] = c at *
              clear hd h34 h92 hVk
              go_wp2_with fail
              go_ret2
              exact ⟨by rw [HN.out] <;> rfl, hb⟩
            · have hlt3 : k + 1 < s.length := by omega
              have hget2 : (⟨s.toArray⟩ : ByteArray)[k + 1]'hlt3 = s[k + 1] := rfl
              have hd2 := List.drop_eq_getElem_cons hlt3
              rw [hd2, unq_esc] at hVk
              generalize s[k] = c at *
              generalize s[k + 1] = d at *
              clear hd hd2 h34 h92
              by_cases hdd : d = 34 ∨ d = 92
              · rw [if_pos hdd] at hVk
                have HVK := Lib.hid hVk
                have gd : ((d.toNat : Int) != 34) = false ∨ (((d.toNat : Int) != 34) = true ∧ ((d.toNat : Int) != 92) = false) := by
                  rcases hdd with h | h
                  · left; rw [h]; rfl
                  · right; rw [h]; exact ⟨rfl, rfl⟩
                clear hdd hVk
                rcases gd with g3 | ⟨g3, g4⟩
                all_goals
                  go_wp2_with (at_builtin; go_loud (refine wpList_append_elem bytes_ty acc d hown hb (Nat.le_refl _) (by omega) ?_ (hone := by simp [enByte, Value.oneCell'])))
                  intro v' w1 hown1 hb1
                  clear hown hb hsv
                  go_wp2
                  go_roundw
                  case rel => exact ⟨k + 1 + 1, acc ++ [d], by first | rfl | go_num, by omega, by omega, by rw [List.length_append]; simp; omega, HVK.out, hown1, hb1⟩
                  case measure => (simp [intOf] <;> omega)
              · rw [if_neg hdd] at hVk
                have HN := Lib.hid (show V = .tuple #[.string ⟨#[]⟩, .int .i64 4] from hVk)
                have g3 : ((d.toNat : Int) != 34) = true := u8_neB (k := 34) (by decide) (fun h => hdd (.inl h))
                have g4 : ((d.toNat : Int) != 92) = true := u8_neB (k := 92) (by decide) (fun h => hdd (.inr h))
                clear hdd hVk
                go_wp2_with fail
                go_ret2
                exact ⟨by rw [HN.out] <;> rfl, hb⟩
          · have g2 : ((s[k].toNat : Int) == 92) = false := u8_neR (k := 92) (by decide) h92
            rw [unq_plain h34 h92] at hVk
            have HVK := Lib.hid hVk
            generalize s[k] = c at *
            clear hd h34 h92 hVk
            go_wp2_with (at_builtin; go_loud (refine wpList_append_elem bytes_ty acc c hown hb (Nat.le_refl _) (by omega) ?_ (hone := by simp [enByte, Value.oneCell'])))
            intro v' w1 hown1 hb1
            clear hown hb hsv
            go_wp2
            go_roundw
            case rel => exact ⟨k + 1, acc ++ [c], by first | rfl | go_num, by omega, by omega, by rw [List.length_append]; simp; omega, HVK.out, hown1, hb1⟩
            case measure => (simp [intOf] <;> omega)
end Go.Proofs.YtmifjfohanegiaaGreatDoor
