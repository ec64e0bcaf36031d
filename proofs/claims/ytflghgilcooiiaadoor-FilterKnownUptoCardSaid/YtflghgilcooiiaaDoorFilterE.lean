/-
  Contracts of SameRules and of the program's Less.
-/
import Derived.Test.YtflghgilcooiiaaDoorFilterD
import Derived.Deep.LoopGhost
namespace Go.Proofs.YtflghgilcooiiaaDoor
set_option linter.unusedVariables false
open Go.RowKit

set_option maxHeartbeats 1000000 in
theorem sameRules_any (l : List RuleD) (n m : Nat) (hn : n = l.length) (hm : m = l.length) (a b : Option Addr) (p q : Nat) (w : World) (hs : SlR w a p l) (ht : SlR w b q l) :
    Calls Tryd.prog 11 #[.slice a n p, .slice b m q] w fun e w' => e = .returned (.bool true) ∧ Below w.heap.size w w' := by
  subst hm
  subst hn
  have h1 := hs.len
  go_enter Tryd.func11, Tryd.ntmps11
  go_wp2_with fail
  go_loopw [5] (fun i wr => ∃ k : Nat, k ≤ l.length ∧ i = .int .i64 k ∧ Below w.heap.size w wr) (fun i _ => l.length - (intOf i).toNat)
  case atStart => exact ⟨0, Nat.zero_le _, rfl, Below.refl _ _⟩
  case round =>
    obtain ⟨k, hk, rfl, hbel⟩ := hrel
    by_cases hlt : k < l.length
    · obtain ⟨ba, oa, rfl, hba, hc0, hc1, hc2⟩ := SlR.at (hs.keep hbel (Nat.le_refl _)) hlt
      obtain ⟨bb, ob, rfl, hbb, hd0, hd1, hd2⟩ := SlR.at (ht.keep hbel (Nat.le_refl _)) hlt
      generalize l[k].wide = x0 at *
      generalize l[k].code = x1 at *
      generalize l[k].mask = x2 at *
      go_wp2_with fail
      go_quiet (fail)
      go_wp2_with fail
      go_roundw
      case rel => exact ⟨k + 1, by omega, by go_num, below_drewN hbel _⟩
      case measure => simp [intOf]; omega
    · have : k = l.length := by omega
      subst this
      go_wp2_with fail
      go_ret
      exact ⟨rfl, hbel⟩

theorem ok_plain (r : RuleD) (hr : okRule r) : okRule (plainR r) := by
  unfold plainR
  split
  · exact ⟨Nat.lt_of_le_of_lt Nat.and_le_left hr.1, Nat.lt_of_le_of_lt Nat.and_le_left hr.2⟩
  · exact ⟨by decide, by decide⟩

def condP (l : List RuleD) (i k : Nat) : Bool := decide (k ≠ i) && coversP (plainR (l.getD k default)) (plainR (l.getD i default)) && (decide (k < i) || decide (plainR (l.getD k default) ≠ plainR (l.getD i default)))
def lessTo (l : List RuleD) (n : Nat) : List RuleD := (List.range n).filterMap fun i => if idleP l i then none else some (l.getD i default)
theorem lessTo_snoc (l : List RuleD) (n : Nat) : lessTo l (n + 1) = lessTo l n ++ (if idleP l n then [] else [l.getD n default]) := by
  unfold lessTo
  rw [List.range_succ, List.filterMap_append]
  congr 1
  cases h : idleP l n <;> simp [h]
theorem lessTo_len (l : List RuleD) (n : Nat) : (lessTo l n).length ≤ n := by
  unfold lessTo
  exact Nat.le_trans (List.length_filterMap_le _ _) (by simp)
theorem lessTo_all (l : List RuleD) (hl : ∀ r ∈ l, okRule r) : lessTo l l.length = lessN l := by
  unfold lessTo lessN
  have : ∀ (xs : List Nat), (∀ i ∈ xs, i < l.length) → (xs.filterMap fun i => if idleP l i then none else some (l.getD i default)) = xs.filterMap fun i => if idleR l i then none else some (l.getD i default) := by
    intro xs
    induction xs with
    | nil => intro _; rfl
    | cons x xs ih =>
      intro h
      rw [List.filterMap_cons, List.filterMap_cons, idle_eq l hl x (h x (by simp)), ih fun i hi => h i (by simp [hi])]
  exact this _ fun i hi => List.mem_range.1 hi

theorem Owns.weaken {α : Type} {w : World} {base : Nat} {e : TypeId} {size : Nat} {en : α → List Value} {v : Value} {xs : List α} (h : Owns w base e size en v xs) {b : Nat} (hb : b ≤ base) : Owns w b e size en v xs := by
  refine ⟨h.1, ?_⟩
  rcases h.2 with h2 | ⟨g, cap, cur, h3, h4, h5⟩
  · exact .inl h2
  · exact .inr ⟨g, cap, cur, h3, Nat.le_trans hb h4, h5⟩
theorem cond_form (l : List RuleD) (i j : Nat) (hi : i < l.length) (hj : j < l.length) : condP l i j = (decide (j ≠ i) && coversP (plainR l[j]) (plainR l[i]) && (decide (j < i) || !decide (plainR l[j] = plainR l[i]))) := by
  unfold condP
  rw [show l.getD j default = l[j] by simp [List.getD, hj], show l.getD i default = l[i] by simp [List.getD, hi]]
  by_cases h : plainR l[j] = plainR l[i] <;> simp [h]
theorem idle_any (l : List RuleD) (i : Nat) : idleP l i = (List.range l.length).any (condP l i) := rfl
theorem any_snoc (p : Nat → Bool) (n : Nat) : (List.range (n + 1)).any p = ((List.range n).any p || p n) := by
  rw [List.range_succ, List.any_append]; simp
theorem idle_of (l : List RuleD) (i j : Nat) (hj : j < l.length) (h : condP l i j = true) : idleP l i = true := by
  rw [idle_any, List.any_eq_true]
  exact ⟨j, List.mem_range.2 hj, h⟩

set_option maxRecDepth 100000 in
set_option maxHeartbeats 4000000 in
theorem less_any (l : List RuleD) (hl : ∀ r ∈ l, okRule r) (n : Nat) (hn : n = l.length) (a : Option Addr) (cap : Nat) (w : World) (hno : NoneAt w) (hs : SlR w a cap l) (hr : l.length * 12 ≤ 140737488351232) :
    Calls Tryd.prog 9 #[.slice a n cap] w fun e w' => ∃ v, e = .returned v ∧ Below w.heap.size w w' ∧ Owns w' w.heap.size 38 3 enRule v (lessN l) := by
  subst hn
  have h1 := hs.len
  have h2 := hno.pos
  rw [← lessTo_all l hl]
  have HL := Lib.hid hl
  clear hl
  obtain ⟨i0, hi, hz0, hz1, hz2⟩ := info_parts (P := Tryd.prog) (e := 38) (z := .agg #[.bool false, .int .u32 0, .int .u32 0]) (size := 3) (bytes := 12) (by kernel_rfl)
  go_enter Tryd.func9, Tryd.ntmps9
  go_wp2_with fail
  go_step3
  go_wp2_with (at_make; refine wpList_make_own _ rfl _ _ 22 rfl w.heap.size 38 i0 _ 3 Tryd.underlying22 hi hz0 hz1 .i64 .i64 _ l.length rfl rfl (by first | rfl | omega) (by rw [hz2]; omega) (by unfold maxLen; omega) (Nat.le_refl _) ?_; intro w1 hown hgrow)
  have hb1 : Below w.heap.size w w1 := ⟨hgrow.os, hgrow.tape, hgrow.output, hgrow.size, fun k hk => hgrow.block k hk (by simp)⟩
  have ho1 : Owns w1 w.heap.size 38 3 enRule (.slice (some ⟨w.heap.size, 0, none⟩) 0 l.length) [] := hown
  clear hown hgrow hi hz0 hz1 hz2
  go_loopw [3, 16] (fun v i wr => ∃ k : Nat, k ≤ l.length ∧ i = .int .i64 k ∧ Below w.heap.size w wr ∧ Owns wr w.heap.size 38 3 enRule v ((l.take k).map plainR)) (fun _ i _ => l.length - (intOf i).toNat)
  case atStart => exact ⟨0, Nat.zero_le _, rfl, hb1, by simpa using ho1⟩
  case round =>
    obtain ⟨k, hk, rfl, hbel, hown⟩ := hrel
    by_cases hlt : k < l.length
    · obtain ⟨ba, oa, rfl, hba, hc0, hc1, hc2⟩ := SlR.at (hs.keep hbel (Nat.le_refl _)) hlt
      have hok := HL.out _ (List.getElem_mem hlt)
      have hno2 := hno.keep hbel h2
      have hsz := hbel.size
      go_wp2_with fail
      refine (plain_any l[k] hok _ (hno2.keep (((Below.refl wr.heap.size wr).alloc (Nat.le_refl _) _)) (by omega))).mono ?_
      rintro e w2 ⟨rfl, hb2⟩
      have hb3 : Below w.heap.size w w2 := hbel.trans ((((Below.refl wr.heap.size wr).alloc (Nat.le_refl _) _).trans (hb2.mono (by simp))).mono hsz)
      have hown2 := Owns.keep (Owns.alloc hown (.cells #[.bool l[k].wide, .int .u32 l[k].code, .int .u32 l[k].mask] 38)) hb2 (Nat.le_refl _)
      clear hb2 hown hbel hno2
      unfold ruleV
      go_wp2_with (at_builtin; go_loud (refine wpList_append_elem rules_ty _ (plainR l[k]) hown2 hb3 (Nat.le_refl _) (by simp; omega) ?_ (hone := by simp [enRule, Value.oneCell'])))
      intro v' w3 hown3 hb4
      go_wp2_with fail
      go_roundw
      case rel => exact ⟨k + 1, by omega, by go_num, hb4, by rw [List.take_succ_eq_append_getElem hlt, List.map_append, List.map_take]; exact hown3⟩
      case measure => simp [intOf]; omega
    · have : k = l.length := by omega
      subst this
      rw [List.take_length] at hown
      clear hb1 ho1
      obtain ⟨aa, ac, rfl, hall⟩ := hown.shape
      clear hown
      have hs2 := hs.keep hbel (Nat.le_refl _)
      have hno2 := hno.keep hbel h2
      have hlen2 := hall.len
      rw [List.length_map] at hlen2 ⊢
      have hsz := hbel.size
      clear hs hno
      obtain ⟨wp, hwp⟩ : ∃ x, x = wr := ⟨_, rfl⟩
      subst hwp
      have hAG : ∀ j (hj : j < l.length) (h' : j < (l.map plainR).length), (l.map plainR)[j] = plainR l[j] := fun j hj h' => by simp
      have HAG := Lib.hid hAG
      have hALn : (l.map plainR).length = l.length := by simp
      generalize l.map plainR = al at *
      clear hAG
      go_wp2_with fail
      go_step3
      go_wp2_with fail
      go_loopg [6, 28] l.length (fun g v i wq => ∃ k : Nat, k ≤ l.length ∧ g = l.length - k ∧ i = .int .i64 k ∧ Below wp.heap.size wp wq ∧ Owns wq wp.heap.size 38 3 enRule v (lessTo l k))
      case atStart => exact ⟨0, Nat.zero_le _, rfl, rfl, Below.refl _ _, Owns.nil _ _ _ _ _⟩
      case round =>
        obtain ⟨k, hk, hg0, rfl, hbq, hownq⟩ := hrel
        obtain ⟨wq, hwq⟩ : ∃ x, x = wr := ⟨_, rfl⟩
        subst hwq
        obtain ⟨g0, hg0'⟩ : ∃ x, x = gk := ⟨_, rfl⟩
        subst hg0'
        have Hg0 := Lib.hid hg0
        clear hg0
        have hszq := hbq.size
        by_cases hlt : k < l.length
        · have hidl := Lib.hid (lessTo_snoc l k)
          obtain ⟨ba, oa, rfl, hba, hc0, hc1, hc2⟩ := SlR.at (SlOf.keep hall hbq (Nat.le_refl _)) (k := k) (by omega)
          rw [HAG.out k hlt (by omega)] at hc0 hc1 hc2
          have hokk := ok_plain _ (HL.out _ (List.getElem_mem hlt))
          go_wp2_with fail
          have hbr : Below (wq.heap.size + 1) (wq.alloc (.cells #[.bool (plainR l[k]).wide, .int .u32 (plainR l[k]).code, .int .u32 (plainR l[k]).mask] 38)) (wq.alloc (.cells #[.bool (plainR l[k]).wide, .int .u32 (plainR l[k]).code, .int .u32 (plainR l[k]).mask] 38)) := Below.refl _ _
          have hr0 : (wq.alloc (.cells #[.bool (plainR l[k]).wide, .int .u32 (plainR l[k]).code, .int .u32 (plainR l[k]).mask] 38)).cell? ⟨wq.heap.size, 0, none⟩ = some (.bool (plainR l[k]).wide) := by go_simp
          have hr1 : (wq.alloc (.cells #[.bool (plainR l[k]).wide, .int .u32 (plainR l[k]).code, .int .u32 (plainR l[k]).mask] 38)).cell? ⟨wq.heap.size, 1, none⟩ = some (.int .u32 (plainR l[k]).code) := by go_simp
          have hr2 : (wq.alloc (.cells #[.bool (plainR l[k]).wide, .int .u32 (plainR l[k]).code, .int .u32 (plainR l[k]).mask] 38)).cell? ⟨wq.heap.size, 2, none⟩ = some (.int .u32 (plainR l[k]).mask) := by go_simp
          have hbq1 : Below wp.heap.size wp (wq.alloc (.cells #[.bool (plainR l[k]).wide, .int .u32 (plainR l[k]).code, .int .u32 (plainR l[k]).mask] 38)) := hbq.alloc hszq _
          have hoq1 := Owns.alloc hownq (.cells #[.bool (plainR l[k]).wide, .int .u32 (plainR l[k]).code, .int .u32 (plainR l[k]).mask] 38)
          have hszr : (wq.alloc (.cells #[.bool (plainR l[k]).wide, .int .u32 (plainR l[k]).code, .int .u32 (plainR l[k]).mask] 38)).heap.size = wq.heap.size + 1 := by simp
          generalize wq.alloc (.cells #[.bool (plainR l[k]).wide, .int .u32 (plainR l[k]).code, .int .u32 (plainR l[k]).mask] 38) = wx at *
          go_loopg [35] l.length (fun g i ws => ∃ j : Nat, j ≤ l.length ∧ g = l.length - j ∧ i = .int .i64 j ∧ Below wx.heap.size wx ws ∧ (List.range j).any (condP l k) = false)
          case atStart => exact ⟨0, Nat.zero_le _, rfl, rfl, Below.refl _ _, rfl⟩
          case round =>
            obtain ⟨j, hj, hg1, rfl, hbs, hany⟩ := hrel
            obtain ⟨ws, hws⟩ : ∃ x, x = wr := ⟨_, rfl⟩
            subst hws
            obtain ⟨g1, hg1'⟩ : ∃ x, x = gk := ⟨_, rfl⟩
            subst hg1'
            have Hg1 := Lib.hid hg1
            clear hg1
            have HANY := Lib.hid hany
            clear hany
            by_cases hlj : j < l.length
            · obtain ⟨bs, os, e, hbs0, hd0, hd1, hd2⟩ := SlR.at (SlOf.keep hall (hbq1.trans (hbs.mono (by omega))) (Nat.le_refl _)) (k := j) (by omega)
              cases e
              rw [HAG.out j hlj (by omega)] at hd0 hd1 hd2
              have hokj := ok_plain _ (HL.out _ (List.getElem_mem hlj))
              have q0 := cell_keep' hr0 hbs
              have q1 := cell_keep' hr1 hbs
              have q2 := cell_keep' hr2 hbs
              have hszs := hbs.size
              have hLq : wq.heap.size < ws.heap.size := by omega
              have hnow : NoneAt ws := hno2.keep (hbq1.trans (hbs.mono (by omega))) (by omega)
              have HC := Lib.hid (cond_form l k j hlt hlj)
              have HI := Lib.hid (idle_of l k j hlj)
              have HS := Lib.hid (any_snoc (condP l k) j)
              have hq := rule_neq (plainR l[j]) (plainR l[k])
              have hcov := fun (w : World) (h : NoneAt w) => covers_any (plainR l[j]) (plainR l[k]) hokj hokk w h
              generalize coversP (plainR l[j]) (plainR l[k]) = cv at *
              generalize decide (plainR l[j] = plainR l[k]) = eq at *
              generalize plainR l[j] = pj at *
              by_cases hjk : (j : Int) = k
              · have hjk' : j = k := by omega
                subst hjk'
                go_wp2_with fail
                go_roundg (l.length - (j + 1))
                case measure => have := Hg1.out; omega
                case rel => exact ⟨j + 1, by omega, rfl, by go_num, hbs.alloc (by omega) _, by rw [HS.out, HANY.out, HC.out]; simp⟩
              · have hjk' : j ≠ k := by omega
                go_wp2_with fail
                refine (hcov _ (hnow.keep ((Below.refl ws.heap.size ws).alloc (Nat.le_refl _) _) (by omega))).mono ?_
                rintro e w4 ⟨rfl, hb4⟩
                have hb5 : Below ws.heap.size ws w4 := ((Below.refl ws.heap.size ws).alloc (Nat.le_refl _) _).trans (hb4.mono (by simp))
                have hb6 := hbs.trans (hb5.mono (show wx.heap.size ≤ ws.heap.size by omega))
                have e0 := cell_keep' q0 hb5
                have e1 := cell_keep' q1 hb5
                have e2 := cell_keep' q2 hb5
                have f0 : w4.cell? ⟨ws.heap.size, 0, none⟩ = some (.bool pj.wide) := by rw [hb4.cell (p := ⟨ws.heap.size, 0, none⟩) (by simp)]; go_simp
                have f1 : w4.cell? ⟨ws.heap.size, 1, none⟩ = some (.int .u32 pj.code) := by rw [hb4.cell (p := ⟨ws.heap.size, 1, none⟩) (by simp)]; go_simp
                have f2 : w4.cell? ⟨ws.heap.size, 2, none⟩ = some (.int .u32 pj.mask) := by rw [hb4.cell (p := ⟨ws.heap.size, 2, none⟩) (by simp)]; go_simp
                have hne : ((j : Int) == k) = false := by rw [beq_eq_false_iff_ne]; exact hjk
                have hsz4 := hb5.size
                have B1 : Hid (Below wp.heap.size wp w4) := hbq1.trans (hb6.mono (by omega))
                have B2 : Hid (Below wx.heap.size wx w4) := hb6
                clear hb4 hb5 hb6 q0 q1 q2 hbs hd0 hd1 hd2 hcov
                cases cv
                · go_wp2_with fail
                  go_roundg (l.length - (j + 1))
                  case measure => have := Hg1.out; omega
                  case rel => exact ⟨j + 1, by omega, rfl, by go_num, B2.out, by rw [HS.out, HANY.out, HC.out]; simp⟩
                · by_cases hlk : (j : Int) < k
                  · have hlk' : j < k := by omega
                    have HID := Lib.hid (HI.out (by rw [HC.out]; simp [hjk', hlk']))
                    go_wp2_with fail
                    go_roundg (l.length - (k + 1))
                    case measure => have := Hg0.out; omega
                    case rel => exact ⟨k + 1, by omega, rfl, by go_num, B1.out, by rw [hidl.out, HID.out]; simpa using (Owns.keep hoq1 B2.out (Nat.le_refl _))⟩
                  · have hlk' : ¬ j < k := by omega
                    cases eq
                    · have HID := Lib.hid (HI.out (by rw [HC.out]; simp [hjk', hlk']))
                      go_wp2_with fail
                      go_roundg (l.length - (k + 1))
                      case measure => have := Hg0.out; omega
                      case rel => exact ⟨k + 1, by omega, rfl, by go_num, B1.out, by rw [hidl.out, HID.out]; simpa using (Owns.keep hoq1 B2.out (Nat.le_refl _))⟩
                    · go_wp2_with fail
                      go_roundg (l.length - (j + 1))
                      case measure => have := Hg1.out; omega
                      case rel => exact ⟨j + 1, by omega, rfl, by go_num, B2.out, by rw [HS.out, HANY.out, HC.out]; simp [hlk']⟩
            · have : j = l.length := by omega
              subst this
              have hIDL : idleP l k = false := HANY.out
              have hb6 := hbq1.trans (hbs.mono (show wp.heap.size ≤ wx.heap.size by omega))
              have hoq2 := Owns.keep hoq1 hbs (Nat.le_refl _)
              obtain ⟨bl, ol, e, hbl, hd0, hd1, hd2⟩ := SlR.at (hs2.keep hb6 (Nat.le_refl _)) hlt
              cases e
              have hll := lessTo_len l k
              go_wp2_with (at_builtin; go_loud (refine wpList_append_elem rules_ty _ l[k] hoq2 hb6 (Nat.le_refl _) (by omega) ?_ (hone := by simp [enRule, Value.oneCell'])))
              intro v' w5 hown5 hb7
              go_wp2_with fail
              go_roundg (l.length - (k + 1))
              case measure => have := Hg0.out; omega
              case rel => exact ⟨k + 1, by omega, rfl, by go_num, hb7, by rw [hidl.out, hIDL]; simpa [List.getD, hlt] using hown5⟩
        · have : k = l.length := by omega
          subst this
          go_wp2_with fail
          try rw [Exit.noGoto_ret]
          go_ret
          refine ⟨_, rfl, hbel.trans (hbq.mono hsz), hownq.weaken hsz⟩
end Go.Proofs.YtflghgilcooiiaaDoor
