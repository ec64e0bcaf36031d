/-
  Contracts of the law's hex and quote.
-/
import Derived.Test.YtaipghojggiopaaDeskB
namespace Go.Proofs.Ytaipghojggiopaa
set_option linter.unusedVariables false
open Go.RowKit

/-- 'append(out, y, z ..)' -/
theorem wpList_append_elems {α : Type} {en : α → List Value} {P : Program} {w0 wr : World} {ops : Array Oper} {rest : List Oper} {o : Oper} {a : Act} {Q : Exit → Act → World → Prop} {s x : Operand}
    {t e : TypeId} {size bytes : Nat} (T : SlTy P t e size bytes) {base : Nat} {v : Value} (xs ys : List α) {m : Nat} {cells : Array Value} {ty : TypeId} (hen : ∀ x, (en x).length = size)
    (hown : Owns wr base e size en v xs) (hbel : Below base w0 wr) (hbase : base ≤ w0.heap.size) (hbound : (xs.length + m) * bytes ≤ 140737488355328) (hm : ys.length = m)
    (h : ∀ v' w1, Owns w1 base e size en v' (xs ++ ys) → Below base w0 w1 → wpList P ops Q rest (a.put o.dst v') w1)
    (hgd : o.guard = none := by rfl) (ho : o.op = .call { callee := .builtin .append, args := #[s, x], argTypes := #[t, t] } := by rfl)
    (hs : a.eval s = v := by rfl) (hx : a.eval x = .slice (some ⟨wr.heap.size, 0, none⟩) m m := by rfl)
    (hy : cells.toList = ys.flatMap en := by rfl) (hone : ∀ u ∈ ys.flatMap en, u.oneCell' = true := by simp [enByte, Value.oneCell']) :
    wpList P ops Q (o :: rest) a (wr.alloc (.cells cells ty)) := by
  obtain ⟨hu, ⟨i, z, hi, hz, h1, h2, h3⟩, hp, hbp⟩ := T
  have hsz := hbel.size
  have hn : xs.length + m ≤ maxLen := by
    have : (xs.length + m) * 1 ≤ (xs.length + m) * bytes := Nat.mul_le_mul_left _ hbp
    unfold maxLen
    omega
  refine wpList_append_own _ hgd s x t ho base e i z size bytes hu hi hz h1 h2 h3 hp v xs.length (xs.flatMap en) hs (World.ownsRow.alloc hown _) ⟨wr.heap.size, 0, none⟩ m m (ys.flatMap en) hx (by rw [flatMap_length hen, hm]) ?_ hone hn hbound (by simp; omega) ?_
  · intro j u hu
    rw [Addr.add_lit, Nat.zero_add, cell_of_row _ _ _ cells ty (0, 0) (heap_alloc_new wr _)]
    rw [← hu, ← hy]
    simp
  · intro v' w' hown' hg _
    refine h v' w' ?_ ?_
    · unfold Owns
      rw [List.length_append, List.flatMap_append, hm]
      exact hown'
    · exact (hbel.alloc (by omega) _).grown hg (by simp; omega) (fun k hk => (World.ownsRow.lt hown k hk).1)

theorem hexC_val (n : UInt8) (h : n.toNat < 16) : (hexC n).toNat = if n.toNat < 10 then 48 + n.toNat else 87 + n.toNat := by
  have hh : ∀ k : Fin 16, (hexC (UInt8.ofNat k.val)).toNat = if k.val < 10 then 48 + k.val else 87 + k.val := by decide +kernel
  have := hh ⟨n.toNat, h⟩
  simpa using this

set_option maxHeartbeats 400000 in
theorem hexq_any (n : UInt8) (h : n.toNat < 16) (w : World) : Calls Try.prog 23 #[.int .u8 n.toNat] w fun e w' => e = .returned (.int .u8 (hexC n).toNat) ∧ w' = w := by
  rw [hexC_val n h]
  generalize n.toNat = k at *
  by_cases hk : (k : Int) < 10
  · have hk' : k < 10 := by omega
    rw [if_pos hk']
    go_enter Try.func23, Try.ntmps23
    go_wp2
    go_ret
    exact ⟨ret_nat (by omega), rfl⟩
  · have hk' : ¬ k < 10 := by omega
    rw [if_neg hk']
    go_enter Try.func23, Try.ntmps23
    go_wp2
    go_ret
    exact ⟨ret_nat (by omega), rfl⟩

theorem quoteC_len (c : UInt8) : (quoteC c).length ≤ 4 := by
  unfold quoteC
  repeat' split
  all_goals simp
theorem quoteB_snoc (l : List UInt8) (c : UInt8) : quoteB (l ++ [c]) = quoteB l ++ quoteC c := by simp [quoteB]
theorem quoteB_len (l : List UInt8) : (quoteB l).length ≤ 4 * l.length := by
  induction l with
  | nil => simp [quoteB]
  | cons c l ih =>
    have : quoteB (c :: l) = quoteC c ++ quoteB l := by simp [quoteB]
    rw [this, List.length_append, List.length_cons]
    have := quoteC_len c
    omega

set_option maxRecDepth 100000 in
set_option maxHeartbeats 2000000 in
theorem quote_any (L : List UInt8) (hL : L.length ≤ 10000000) (w : World) :
    Calls Try.prog 11 #[.string ⟨L.toArray⟩] w fun e w' => e = .returned (.string ⟨(quoteN L).toArray⟩) ∧ Below w.heap.size w w' := by
  go_enter Try.func11, Try.ntmps11
  go_wp2_with fail
  have ho0 : Owns (w.alloc (.cells #[.int .u8 34] 5)) w.heap.size 5 1 enByte (.slice (some ⟨w.heap.size, 0, none⟩) 1 1) [34] := Owns.lit w w.heap.size enByte 1 enByte_len [34] _ _ 1 rfl rfl (by decide) (Nat.le_refl _)
  go_loopw [3, 4] (fun v x wr => ∃ i : Nat, i ≤ L.length ∧ x = .int .i64 (i : Nat) ∧ Below w.heap.size w wr ∧ Owns wr w.heap.size 5 1 enByte v (34 :: quoteB (L.take i))) (fun _ x _ => L.length - (intOf x).toNat)
  case atStart => exact ⟨0, Nat.zero_le _, rfl, (Below.refl _ _).alloc (Nat.le_refl _) _, ho0⟩
  case round =>
    clear ho0
    obtain ⟨i, hi, rfl, hb, hown⟩ := hrel
    obtain ⟨av, cv, hv, hsv⟩ := hown.shape
    subst hv
    have hlen : (34 :: quoteB (L.take i)).length ≤ 4 * i + 1 := by
      have := quoteB_len (L.take i)
      rw [List.length_take] at this
      simp only [List.length_cons]
      omega
    have HQ : Hid (∀ h : i < L.length, 34 :: quoteB (L.take (i + 1)) = (34 :: quoteB (L.take i)) ++ quoteC L[i]) := Lib.hid (fun h => by rw [List.take_succ_eq_append_getElem h, quoteB_snoc]; rfl)
    have HALL : Hid (i = L.length → (34 :: quoteB (L.take i)) ++ [34] = quoteN L) := Lib.hid (fun h => by rw [h, List.take_length]; rfl)
    generalize 34 :: quoteB (L.take i) = qs at *
    by_cases hlt : (i : Int) < L.length
    · have hlt' : i < L.length := by omega
      have hget : (⟨L.toArray⟩ : ByteArray)[i]'hlt' = L[i] := rfl
      have hq2 := HQ.out hlt'
      obtain ⟨c, hc⟩ : ∃ c, c = L[i] := ⟨_, rfl⟩
      rw [← hc] at hget hq2
      have HQ2 := Lib.hid hq2
      clear hc hq2 HQ HALL
      have hcl := c.toNat_lt
      by_cases c34 : c = 34
      · subst c34
        go_wp2_with (at_builtin; go_loud (refine wpList_append_elems (m := 2) bytes_ty qs [92, 34] enByte_len hown hb (Nat.le_refl _) (by omega) rfl ?_))
        intro v' w5 hown5 hb5
        go_wp2_with fail
        go_roundw
        case rel => exact ⟨i + 1, by omega, by go_num, hb5, by rw [HQ2.out]; exact hown5⟩
        case measure => simp [intOf]; omega
      · have n34 : ((c.toNat : Int) == 34) = false := u8_ne (k := 34) (by decide) c34
        by_cases c92 : c = 92
        · subst c92
          go_wp2_with (at_builtin; go_loud (refine wpList_append_elems (m := 2) bytes_ty qs [92, 92] enByte_len hown hb (Nat.le_refl _) (by omega) rfl ?_))
          intro v' w5 hown5 hb5
          go_wp2_with fail
          go_roundw
          case rel => exact ⟨i + 1, by omega, by go_num, hb5, by rw [HQ2.out]; exact hown5⟩
          case measure => simp [intOf]; omega
        · have n92 : ((c.toNat : Int) == 92) = false := u8_ne (k := 92) (by decide) c92
          by_cases c10 : c = 10
          · subst c10
            go_wp2_with (at_builtin; go_loud (refine wpList_append_elems (m := 2) bytes_ty qs [92, 110] enByte_len hown hb (Nat.le_refl _) (by omega) rfl ?_))
            intro v' w5 hown5 hb5
            go_wp2_with fail
            go_roundw
            case rel => exact ⟨i + 1, by omega, by go_num, hb5, by rw [HQ2.out]; exact hown5⟩
            case measure => simp [intOf]; omega
          · have n10 : ((c.toNat : Int) == 10) = false := u8_ne (k := 10) (by decide) c10
            have hqc : quoteC c = if c.toNat < 32 ∨ 126 < c.toNat then [92, 120, hexC (c / 16), hexC (c % 16)] else [c] := by
              unfold quoteC
              rw [if_neg (by simp [c34, c92]), if_neg c10]
            have HQC := Lib.hid hqc
            clear hqc
            have hct : Hid (c.toNat < 256) := hcl
            by_cases hp : (c.toNat : Int) < 32 ∨ (c.toNat : Int) > 126
            · have hp' : c.toNat < 32 ∨ 126 < c.toNat := by omega
              have HY : Hid (34 :: quoteB (L.take (i + 1)) = qs ++ [92, 120, hexC (c / 16), hexC (c % 16)]) := Lib.hid (by rw [HQ2.out, HQC.out, if_pos hp'])
              have h16 : (c / 16).toNat = c.toNat / 16 := by simp
              have h17 : (c % 16).toNat = c.toNat % 16 := by simp
              have k1 := hexq_any (c / 16) (by rw [h16]; omega)
              have k2 := hexq_any (c % 16) (by rw [h17]; omega)
              rw [h16] at k1
              rw [h17] at k2
              rw [Int.natCast_ediv] at k1
              rw [Int.natCast_emod] at k2
              generalize hexC (c / 16) = x1 at *
              generalize hexC (c % 16) = x2 at *
              clear HQC HQ2 h16 h17 hp'
              rcases hp with hp | hp
              · go_wp2_with fail
                refine (k1 _).mono ?_
                rintro e w2 ⟨rfl, rfl⟩
                go_wp2_with fail
                refine (k2 _).mono ?_
                rintro e w2 ⟨rfl, rfl⟩
                go_wp2_with (at_builtin; go_loud (refine wpList_append_elems (m := 4) bytes_ty qs [92, 120, x1, x2] enByte_len hown hb (Nat.le_refl _) (by omega) rfl ?_))
                intro v' w5 hown5 hb5
                go_wp2_with fail
                go_roundw
                case rel => exact ⟨i + 1, by omega, by go_num, hb5, by rw [HY.out]; exact hown5⟩
                case measure => simp [intOf]; omega
              · have hp2 : ¬ (c.toNat : Int) < 32 := by omega
                go_wp2_with fail
                refine (k1 _).mono ?_
                rintro e w2 ⟨rfl, rfl⟩
                go_wp2_with fail
                refine (k2 _).mono ?_
                rintro e w2 ⟨rfl, rfl⟩
                go_wp2_with (at_builtin; go_loud (refine wpList_append_elems (m := 4) bytes_ty qs [92, 120, x1, x2] enByte_len hown hb (Nat.le_refl _) (by omega) rfl ?_))
                intro v' w5 hown5 hb5
                go_wp2_with fail
                go_roundw
                case rel => exact ⟨i + 1, by omega, by go_num, hb5, by rw [HY.out]; exact hown5⟩
                case measure => simp [intOf]; omega
            · have hp1 : ¬ (c.toNat : Int) < 32 := by omega
              have hp2 : ¬ (c.toNat : Int) > 126 := by omega
              have HY : Hid (34 :: quoteB (L.take (i + 1)) = qs ++ [c]) := Lib.hid (by rw [HQ2.out, HQC.out, if_neg (by omega)])
              clear HQC HQ2 hp
              go_wp2_with (at_builtin; go_loud (refine wpList_append_elems (m := 1) bytes_ty qs [c] enByte_len hown hb (Nat.le_refl _) (by omega) rfl ?_))
              intro v' w5 hown5 hb5
              go_wp2_with fail
              go_roundw
              case rel => exact ⟨i + 1, by omega, by go_num, hb5, by rw [HY.out]; exact hown5⟩
              case measure => simp [intOf]; omega
    · have hi' := HALL.out (by omega)
      have HA := Lib.hid hi'
      clear HQ HALL hi'
      go_wp2_with (at_builtin; go_loud (refine wpList_append_elems (m := 1) bytes_ty qs [34] enByte_len hown hb (Nat.le_refl _) (by omega) rfl ?_))
      intro v' w5 hown5 hb5
      rw [HA.out] at hown5
      obtain ⟨a5, c5, hv5, _⟩ := hown5.shape
      subst hv5
      have hconv := owns_string (P := Try.prog) Try.underlying51 Try.underlying5 Try.underlying9 hown5
      go_wp2_with fail
      go_ret
      exact ⟨rfl, hb5⟩
end Go.Proofs.Ytaipghojggiopaa
