/-
  chars.Unquote: contract.
-/
import Derived.Test.YtajnmbhcaogfoaaGreatDoorChrC
import Derived.Test.YtajnmbhcaogfoaaGreatDoorChrD
import Derived.Deep.DeepCutAuto
namespace Go.Proofs.YtajnmbhcaogfoaaGreatDoor
set_option linter.unusedVariables false
open Go.RowKit Go.Shelf

abbrev BuilderFis (B b : Nat) (l : List UInt8) (w : World) : Prop := Lib.IsBuilderF 110 5 B b (Lib.byteCells l) w
theorem BuilderFis.keep {B b : Nat} {l : List UInt8} {w w' : World} (h : BuilderFis B b l w) (hb : Below w.heap.size w w') : BuilderFis B b l w' := by
  have keep : ∀ p, Lib.BuilderAtF 110 5 B b p (Lib.byteCells l) w → Lib.BuilderAtF 110 5 B b p (Lib.byteCells l) w' := by
    rintro p ⟨hB, v, hv, ho, hne⟩
    exact ⟨hB, v, (hb.block _ (Array.getElem?_eq_some_iff.1 hv).1).trans hv, Go.World.ownsRowF.kept (row := none) ho ⟨hb.os, hb.tape, hb.output, hb.size, fun k hk _ => hb.block k hk⟩ (by cases hv : v.ownBlock <;> simp), hne⟩
  exact h.elim (fun x => .inl (keep _ x)) (fun x => .inr (keep _ x))

/-- what is written, and where it ends: at a quote, or at the text's end; none: an escape that is none -/
def unq : List UInt8 → List UInt8 → Option (List UInt8 × List UInt8)
  | acc, [] => some (acc, [])
  | acc, c :: t => if c = 34 then some (acc, c :: t) else if c = 92 then (match t with
      | [] => none
      | d :: u => if d = 34 ∨ d = 92 then unq (acc ++ [d]) u else none) else unq (acc ++ [c]) t
inductive UnqR where
  | bad (n : Nat)
  | good (l : List UInt8)
def unqFin (b : List UInt8) : UnqR := if mayN b = 0 then .good b else .bad (mayN b)
def unqEnd : Option (List UInt8 × List UInt8) → UnqR
  | none => .bad 4
  | some (_, []) => .bad 2
  | some (b, _ :: r) => if r = [] then unqFin b else .bad 3
def unqL (s : List UInt8) : UnqR := match s with
  | [] => .bad 2
  | [_] => .bad 2
  | c :: t => if c = 34 then unqEnd (unq [] t) else .bad 4
def unqV : UnqR → Value
  | .bad n => .tuple #[.string ⟨#[]⟩, errV n]
  | .good l => .tuple #[.string ⟨l.toArray⟩, .nilIface]
theorem unq_nil (acc : List UInt8) : unq acc [] = some (acc, []) := by unfold unq; rfl
theorem unq_quote (acc t : List UInt8) : unq acc (34 :: t) = some (acc, 34 :: t) := by unfold unq; rw [if_pos rfl]
theorem unq_plain {acc t : List UInt8} {c : UInt8} (h1 : c ≠ 34) (h2 : c ≠ 92) : unq acc (c :: t) = unq (acc ++ [c]) t := by rw [unq.eq_def]; simp only; rw [if_neg h1, if_neg h2]
theorem unq_esc_end (acc : List UInt8) : unq acc [92] = none := by unfold unq; rw [if_neg (by decide), if_pos rfl]
theorem unq_esc {acc t : List UInt8} {d : UInt8} : unq acc (92 :: d :: t) = if d = 34 ∨ d = 92 then unq (acc ++ [d]) t else none := by rw [unq, if_neg (by decide), if_pos rfl]

set_option maxRecDepth 100000 in
set_option maxHeartbeats 4000000 in
theorem unquote_any (s : List UInt8) (hs : s.length ≤ 1000000000) (w : World) (hT : TabsU w) :
    Calls Tryz.prog 39 #[.string ⟨s.toArray⟩] w fun e w' => e = .returned (unqV (unqL s)) ∧ Below w.heap.size w w' := by
  obtain ⟨V, hV⟩ : ∃ V, V = unqV (unqL s) := ⟨_, rfl⟩
  rw [← hV]
  have HV := Lib.hid hV
  clear hV
  have HT := Lib.hid hT
  clear hT
  by_cases h2 : (s.length : Int) < 2
  · have HN := Lib.hid (show V = .tuple #[.string ⟨#[]⟩, errV 2] by
      rw [HV.out]
      rcases s with _ | ⟨a, _ | ⟨b, t⟩⟩
      · rfl
      · rfl
      · simp at h2; omega)
    clear HV
    go_enter Tryz.func39, Tryz.ntmps39
    go_wp2_with fail
    go_ret2
    exact ⟨by rw [HN.out] <;> rfl, Below.refl _ _⟩
  have h0 : 0 < s.length := by omega
  have hget : (⟨s.toArray⟩ : ByteArray)[0]'h0 = s[0] := rfl
  by_cases hq : s[0] = 34
  case neg =>
    have HN := Lib.hid (show V = .tuple #[.string ⟨#[]⟩, errV 4] by
      rw [HV.out]
      rcases s with _ | ⟨a, _ | ⟨b, t⟩⟩
      · simp at h0
      · simp at h2
      · show unqV (if a = 34 then _ else _) = _
        rw [if_neg (show ¬ a = 34 from hq)]; rfl)
    have g34 : ((s[0].toNat : Int) != 34) = true := by
      rw [bne_iff_ne]; intro h; exact hq (UInt8.toNat.inj (by have e : UInt8.toNat 34 = 34 := rfl; rw [e]; omega))
    generalize s[0] = c at *
    clear HV hq
    go_enter Tryz.func39, Tryz.ntmps39
    go_wp2_with fail
    go_ret2
    exact ⟨by rw [HN.out] <;> rfl, Below.refl _ _⟩
  case pos =>
    have hst : V = unqV (unqEnd (unq [] (s.drop 1))) := by
      rw [HV.out]
      rcases s with _ | ⟨a, _ | ⟨b, t⟩⟩
      · simp at h0
      · simp at h2
      · show unqV (if a = 34 then _ else _) = _
        rw [if_pos (show a = 34 from hq)]; rfl
    have HS := Lib.hid hst
    have g34 : ((s[0].toNat : Int) != 34) = false := by rw [hq]; rfl
    generalize s[0] = c0 at *
    clear HV hq hst
    have hbf := BuilderIs.fresh w
    have hbb : Below w.heap.size w (w.alloc (.cells #[.pointer none, .slice none 0 0] 110)) := (Below.refl _ _).alloc (Nat.le_refl _) _
    have HBF := Lib.hid hbf
    have HBB := Lib.hid hbb
    clear hbf hbb
    go_enter Tryz.func39, Tryz.ntmps39
    go_wp2_with fail
    generalize w.alloc (.cells #[.pointer none, .slice none 0 0] 110) = W at *
    go_loopw [5] (fun x wr => ∃ (k : Nat) (acc : List UInt8), x = .int .i64 (k : Nat) ∧ 1 ≤ k ∧ k ≤ s.length ∧ acc.length ≤ k ∧ V = unqV (unqEnd (unq acc (s.drop k))) ∧ BuilderIs w.heap.size w.heap.size acc wr ∧ Below w.heap.size w wr) (fun x _ => s.length - (intOf x).toNat)
    case atStart => exact ⟨1, [], rfl, Nat.le_refl _, by omega, Nat.zero_le _, HS.out, HBF.out, HBB.out⟩
    case round =>
      clear HS HBF HBB hget g34
      obtain ⟨k, acc, rfl, hk1, hk, hacc, hVk, hbu, hbw⟩ := hrel
      have HBU := Lib.hid hbu
      have HBW := Lib.hid hbw
      have hBs := hbw.size
      clear hbu hbw
      by_cases hlt : (k : Int) < s.length
      · have hlt' : k < s.length := by omega
        have hget : (⟨s.toArray⟩ : ByteArray)[k]'hlt' = s[k] := rfl
        have hd := List.drop_eq_getElem_cons hlt'
        rw [hd] at hVk
        by_cases h34 : s[k] = 34
        · -- the closing quote
          have g : ((s[k].toNat : Int) != 34) = false := by rw [h34]; rfl
          rw [h34, unq_quote] at hVk
          have HVK := Lib.hid hVk
          generalize s[k] = c at *
          clear hd h34 hVk
          have gk : ((k : Int) == s.length) = false := by rw [beq_eq_false_iff_ne]; omega
          by_cases hlong : (k : Int) + 1 < s.length
          · have HN := Lib.hid (show V = .tuple #[.string ⟨#[]⟩, errV 3] by
              rw [HVK.out]
              show unqV (if s.drop (k + 1) = [] then _ else _) = _
              rw [if_neg (by intro h; have := congrArg List.length h; rw [List.length_drop] at this; simp at this; omega)]; rfl)
            clear HVK
            go_wp2_with fail
            go_ret2
            exact ⟨by rw [HN.out] <;> rfl, HBW.out⟩
          · have HN := Lib.hid (show V = unqV (unqFin acc) by
              rw [HVK.out]
              show unqV (if s.drop (k + 1) = [] then _ else _) = _
              rw [if_pos (List.drop_eq_nil_of_le (by omega))])
            have c1 := Tryz.Builder_String_any_f w.heap.size w.heap.size acc wr (Lib.IsBuilderF.of HBU.out) hBs
            have cm := fun w hT => may_any acc (by omega) w hT
            clear HVK
            go_wp2_with fail
            with_reducible refine c1.mono ?_
            rintro e w1 ⟨rfl, hf1, hb1⟩
            have HF1 := Lib.hid hf1
            have HB1 := Lib.hid (HBW.out.trans hb1)
            clear hf1 hb1 c1
            go_wp2_with fail
            with_reducible refine (cm _ (HT.out.keep HB1.out)).mono ?_
            rintro e w2 ⟨rfl, hb2⟩
            have HF2 := Lib.hid (BuilderFis.keep HF1.out hb2)
            have HB2 := Lib.hid (bstep HB1.out hb2 (Nat.le_refl _))
            have hB2 := HB2.out.size
            clear hb2 cm
            by_cases hm : mayN acc = 0
            · have HM := Lib.hid (show V = .tuple #[.string ⟨acc.toArray⟩, .nilIface] by rw [HN.out]; unfold unqFin; rw [if_pos hm]; rfl)
              rw [show errO (mayN acc) = .nilIface by unfold errO; rw [if_pos hm]]
              have c2 := Tryz.Builder_String_any_f w.heap.size w.heap.size acc w2 HF2.out hB2
              clear hm HN
              go_wp2_with fail
              with_reducible refine c2.mono ?_
              rintro e w3 ⟨rfl, hf3, hb3⟩
              have HB3 := Lib.hid (HB2.out.trans hb3)
              clear hf3 hb3 c2
              go_wp2_with fail
              go_ret2
              exact ⟨by rw [HM.out] <;> rfl, HB3.out⟩
            · have HM := Lib.hid (show V = .tuple #[.string ⟨#[]⟩, errV (mayN acc : Nat)] by rw [HN.out]; unfold unqFin; rw [if_neg hm]; rfl)
              rw [show errO (mayN acc) = errV (mayN acc : Nat) by unfold errO; rw [if_neg hm]]
              generalize mayN acc = m at *
              unfold errV
              clear hm HN
              go_wp2_with fail
              go_ret2
              exact ⟨by rw [HM.out] <;> rfl, HB2.out⟩
        · have g : ((s[k].toNat : Int) != 34) = true := by
            rw [bne_iff_ne]; intro h; exact h34 (UInt8.toNat.inj (by have e : UInt8.toNat 34 = 34 := rfl; rw [e]; omega))
          by_cases h92 : s[k] = 92
          · have g2 : ((s[k].toNat : Int) == 92) = true := by rw [h92]; rfl
            rw [h92] at hVk
            by_cases hlt2 : (k : Int) + 1 = s.length
            · have HN := Lib.hid (show V = .tuple #[.string ⟨#[]⟩, errV 4] by
                rw [hVk, List.drop_eq_nil_of_le (by omega), unq_esc_end]; rfl)
              generalize s[k] = c at *
              have ge : ((k : Int) + 1 == s.length) = true := by rw [beq_iff_eq]; exact hlt2
              clear hd h34 h92 hVk hlt2
              go_wp2_with fail
              go_ret2
              exact ⟨by rw [HN.out] <;> rfl, HBW.out⟩
            · have hlt3 : k + 1 < s.length := by omega
              have hget2 : (⟨s.toArray⟩ : ByteArray)[k + 1]'hlt3 = s[k + 1] := rfl
              have hd2 := List.drop_eq_getElem_cons hlt3
              rw [hd2, unq_esc] at hVk
              have ge : ((k : Int) + 1 == s.length) = false := by rw [beq_eq_false_iff_ne]; exact hlt2
              generalize s[k] = c at *
              generalize s[k + 1] = d at *
              have e34 : UInt8.toNat 34 = 34 := rfl
              have e92 : UInt8.toNat 92 = 92 := rfl
              clear hd hd2 h34 h92
              by_cases hdd : d = 34 ∨ d = 92
              · rw [if_pos hdd] at hVk
                have HVK := Lib.hid hVk
                have gd : ((d.toNat : Int) != 34) = false ∨ (((d.toNat : Int) != 34) = true ∧ ((d.toNat : Int) != 92) = false) := by
                  rcases hdd with h | h
                  · left; rw [h]; rfl
                  · right; rw [h]; exact ⟨rfl, rfl⟩
                have cw := writeByte_any w.heap.size w.heap.size acc d wr HBU.out (by omega) hBs
                clear hdd hVk
                rcases gd with g3 | ⟨g3, g4⟩
                all_goals
                  go_wp2_with fail
                  with_reducible refine cw.mono ?_
                  rintro e w1 ⟨rfl, hbu2, hb2⟩
                  have HBU2 := Lib.hid hbu2
                  have HBW2 := Lib.hid (HBW.out.trans hb2)
                  clear hbu2 hb2 cw
                  go_wp2_with fail
                  go_roundw
                  case rel => exact ⟨k + 1 + 1, acc ++ [d], by first | rfl | go_num, by omega, by omega, by rw [List.length_append]; simp; omega, HVK.out, HBU2.out, HBW2.out⟩
                  case measure => (simp [intOf] <;> omega)
              · rw [if_neg hdd] at hVk
                have HN := Lib.hid (show V = .tuple #[.string ⟨#[]⟩, errV 4] from hVk)
                have g3 : ((d.toNat : Int) != 34) = true := by rw [bne_iff_ne]; intro h; exact hdd (.inl (UInt8.toNat.inj (by omega)))
                have g4 : ((d.toNat : Int) != 92) = true := by rw [bne_iff_ne]; intro h; exact hdd (.inr (UInt8.toNat.inj (by omega)))
                clear hdd hVk
                go_wp2_with fail
                go_ret2
                exact ⟨by rw [HN.out] <;> rfl, HBW.out⟩
          · have g2 : ((s[k].toNat : Int) == 92) = false := by
              rw [beq_eq_false_iff_ne]; intro h; exact h92 (UInt8.toNat.inj (by have e : UInt8.toNat 92 = 92 := rfl; rw [e]; omega))
            rw [unq_plain h34 h92] at hVk
            have HVK := Lib.hid hVk
            generalize s[k] = c at *
            clear hd h34 h92 hVk
            have cw := writeByte_any w.heap.size w.heap.size acc c wr HBU.out (by omega) hBs
            go_wp2_with fail
            with_reducible refine cw.mono ?_
            rintro e w1 ⟨rfl, hbu2, hb2⟩
            have HBU2 := Lib.hid hbu2
            have HBW2 := Lib.hid (HBW.out.trans hb2)
            clear hbu2 hb2 cw
            go_wp2_with fail
            go_roundw
            case rel => exact ⟨k + 1, acc ++ [c], by first | rfl | go_num, by omega, by omega, by rw [List.length_append]; simp; omega, HVK.out, HBU2.out, HBW2.out⟩
            case measure => (simp [intOf] <;> omega)
      · have HN := Lib.hid (show V = .tuple #[.string ⟨#[]⟩, errV 2] by
          rw [hVk, List.drop_eq_nil_of_le (by omega), unq_nil]; rfl)
        have gk : ((k : Int) == s.length) = true := by rw [beq_iff_eq]; omega
        clear hVk
        go_wp2_with fail
        go_ret2
        exact ⟨by rw [HN.out] <;> rfl, HBW.out⟩
end Go.Proofs.YtajnmbhcaogfoaaGreatDoor
