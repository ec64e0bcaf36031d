/-
  The reference of chapter 03: Check, May: contracts.
-/
import Derived.Test.YtlgbgobpdkilaaaGreatDoorRlxD
import Derived.Test.YtlgbgobpdkilaaaGreatDoorLexB
import Derived.Test.YtlgbgobpdkilaaaGreatDoorLexG
import Derived.Test.YtlgbgobpdkilaaaGreatDoorChrE
import Derived.StillTailTactics

namespace Go.Proofs.YtlgbgobpdkilaaaGreatDoor
set_option linter.unusedVariables false
open Go.RowKit Go.Shelf

def enUnt (u : Unt) : List Value := [.int .i64 u.line, .int .i64 u.col, .int .i32 (u.rune : Nat), .int .i64 (u.wide : Nat), .bool (illU u.rune u.wide)]
theorem enUnt_len (u : Unt) : (enUnt u).length = 5 := rfl
theorem unts_ty : SlTy Tryz.prog 172 175 5 40 := SlTy.mk' (.agg #[.int .i64 0, .int .i64 0, .int .i32 0, .int .i64 0, .bool false]) Tryz.underlying172 (by kernel_rfl) rfl (by decide) (by decide)
theorem unt_at {w : World} {a : Option Addr} {cap : Nat} {l : List Unt} (h : SlOf w enUnt 5 a cap l) {k : Nat} (hk : k < l.length) :
    ∃ b o, a = some ⟨b, o, none⟩ ∧ b < w.heap.size ∧ w.cell? ⟨b, o + k * 5, none⟩ = some (.int .i64 l[k].line) ∧ w.cell? ⟨b, o + k * 5 + 1, none⟩ = some (.int .i64 l[k].col) ∧ w.cell? ⟨b, o + k * 5 + 2, none⟩ = some (.int .i32 (l[k].rune : Nat)) ∧ w.cell? ⟨b, o + k * 5 + 3, none⟩ = some (.int .i64 (l[k].wide : Nat)) ∧ w.cell? ⟨b, o + k * 5 + 4, none⟩ = some (.bool (illU l[k].rune l[k].wide)) := by
  obtain ⟨b, o, rfl, hb, hc⟩ := SlOf.cells h enUnt_len (by decide) hk
  exact ⟨b, o, rfl, hb, hc 0 (by decide), by rw [Nat.add_assoc]; exact hc 1 (by decide), by rw [Nat.add_assoc]; exact hc 2 (by decide), by rw [Nat.add_assoc]; exact hc 3 (by decide), by rw [Nat.add_assoc]; exact hc 4 (by decide)⟩
/-- how many bytes a rune is written in -/
theorem enc_size (R : Nat) (k : Nat) (h : (k = 1 ∧ R < 128) ∨ (k = 2 ∧ 128 ≤ R ∧ R ≤ 2047) ∨ (k = 3 ∧ 2048 ≤ R ∧ R ≤ 65535 ∧ (R < 55296 ∨ 57344 ≤ R)) ∨ (k = 4 ∧ 65536 ≤ R ∧ R ≤ 1114111)) : (Utf8.encode (R : Int)).size = k := by
  have hv : Utf8.valid (R : Int) = true := by
    unfold Utf8.valid
    simp only [Bool.or_eq_true, Bool.and_eq_true, decide_eq_true_eq]
    omega
  unfold Utf8.encode
  simp only [hv, if_true, Int.toNat_natCast]
  rcases h with ⟨rfl, h1⟩ | ⟨rfl, h1, h2⟩ | ⟨rfl, h1, h2, h3⟩ | ⟨rfl, h1, h2⟩
  · rw [if_pos h1]; rfl
  · rw [if_neg (by omega), if_pos (by omega)]; rfl
  · rw [if_neg (by omega), if_neg (by omega), if_pos (by omega)]; rfl
  · rw [if_neg (by omega), if_neg (by omega), if_neg (by omega)]; rfl
/-- the next unit: what the reference asks of it -/
theorem unit_ref (s : List UInt8) (k : Nat) (hk : k < s.length) : ∃ R N, decL (s.drop k) = (R, N) ∧ 1 ≤ N ∧ k + N ≤ s.length ∧
    ((R ≠ 65533 ∧ illU R N = false ∧ (Utf8.encode (R : Int)).size = N) ∨
     (R = 65533 ∧ N = 3 ∧ illU R N = false ∧ (Utf8.encode (R : Int)).size = N ∧ k + 2 < s.length ∧ atB s k = 239 ∧ atB s (k + 1) = 191 ∧ atB s (k + 2) = 189) ∨
     (R = 65533 ∧ N = 1 ∧ illU R N = true ∧ (s.length ≤ k + 2 ∨ (k + 2 < s.length ∧ (atB s k ≠ 239 ∨ (atB s k = 239 ∧ atB s (k + 1) ≠ 191) ∨ (atB s k = 239 ∧ atB s (k + 1) = 191 ∧ atB s (k + 2) ≠ 189)))))) := by
  have hne : s.drop k ≠ [] := by intro h; have := congrArg List.length h; rw [List.length_drop] at this; simp at this; omega
  have hw := dec_w (s.drop k)
  rw [List.length_drop] at hw
  have hw2 := hw.2.2 hne
  refine ⟨(decL (s.drop k)).1, (decL (s.drop k)).2, rfl, hw.1, by omega, ?_⟩
  have hg : ∀ j, (s.drop k).getD j 0 = atB s (k + j) := fun j => by unfold atB; rw [List.getD_eq_getElem?_getD, List.getElem?_drop]
  by_cases h : (decL (s.drop k)).1 = 65533
  · have hi : (decL (s.drop k)).2 = 1 ∧ ¬ (3 ≤ (s.drop k).length ∧ ((s.drop k).getD 0 0).toNat = 239 ∧ ((s.drop k).getD 1 0).toNat = 191 ∧ ((s.drop k).getD 2 0).toNat = 189) ∨ (decL (s.drop k)).2 = 3 ∧ 3 ≤ (s.drop k).length ∧ ((s.drop k).getD 0 0).toNat = 239 ∧ ((s.drop k).getD 1 0).toNat = 191 ∧ ((s.drop k).getD 2 0).toNat = 189 := decN_ill (s.drop k).length ((s.drop k).getD 0 0).toNat ((s.drop k).getD 1 0).toNat ((s.drop k).getD 2 0).toNat ((s.drop k).getD 3 0).toNat (UInt8.toNat_lt _) (UInt8.toNat_lt _) (UInt8.toNat_lt _) h
    rw [List.length_drop, hg 0, hg 1, hg 2] at hi
    have un : ∀ (c : UInt8) (m : UInt8), c.toNat = m.toNat ↔ c = m := fun c m => UInt8.toNat_inj
    have e0 : (239 : UInt8).toNat = 239 := rfl
    have e1 : (191 : UInt8).toNat = 191 := rfl
    have e2 : (189 : UInt8).toNat = 189 := rfl
    rw [← e0, ← e1, ← e2, un, un, un, Nat.add_zero] at hi
    right
    rcases hi with ⟨h1, h2⟩ | ⟨h1, h2, h3, h4, h5⟩
    · right
      have h1' : (decL (s.drop k)).2 = 1 := h1
      refine ⟨h, h1', by rw [h, h1']; rfl, ?_⟩
      by_cases hl : s.length ≤ k + 2
      · exact .inl hl
      · refine .inr ⟨by omega, ?_⟩
        by_cases a0 : atB s k = 239
        · by_cases a1 : atB s (k + 1) = 191
          · by_cases a2 : atB s (k + 2) = 189
            · exact absurd ⟨by omega, a0, a1, a2⟩ h2
            · exact .inr (.inr ⟨a0, a1, a2⟩)
          · exact .inr (.inl ⟨a0, a1⟩)
        · exact .inl a0
    · left
      have h1' : (decL (s.drop k)).2 = 3 := h1
      exact ⟨h, h1', by rw [h, h1']; rfl, by rw [h, h1']; rfl, by omega, h3, h4, h5⟩
  · left
    obtain ⟨c, n, e, hc⟩ := decN_cases (s.drop k).length ((s.drop k).getD 0 0).toNat ((s.drop k).getD 1 0).toNat ((s.drop k).getD 2 0).toNat ((s.drop k).getD 3 0).toNat
    have e' : decL (s.drop k) = (c, n) := e
    rw [e'] at h ⊢
    simp only at h ⊢
    refine ⟨h, by unfold illU; rw [Bool.and_eq_false_iff, beq_eq_false_iff_ne]; exact .inl h, enc_size c n ?_⟩
    rcases hc with hc | hc | hc | hc | hc
    · exact .inl hc
    · exact .inr (.inl hc)
    · exact .inr (.inr (.inl hc))
    · exact .inr (.inr (.inr hc))
    · exact absurd hc.1 h
structure UnI (s : List UInt8) (k f : Nat) (L C : Int) (acc : List Unt) : Prop where
  hk : k ≤ s.length
  hf : s.length ≤ f + k
  hv : unitsL s = acc ++ unitsF f (s.drop k) (L, C)
  l1 : 1 ≤ L
  l2 : L ≤ (k : Int) + 1
  c1 : 1 ≤ C
  c2 : C ≤ (k : Int) + 1
  n : acc.length ≤ k
theorem UnI.step {s : List UInt8} {k f : Nat} {L C : Int} {acc : List Unt} (h : UnI s k (f + 1) L C acc) (hlt : k < s.length) {R N : Nat} (he : decL (s.drop k) = (R, N)) (h1 : 1 ≤ N) (h2 : k + N ≤ s.length) : UnI s (k + N) f (nextP (L, C) R).1 (nextP (L, C) R).2 (acc ++ [⟨L, C, R, N⟩]) := by
  have hne : s.drop k ≠ [] := by intro h; have := congrArg List.length h; rw [List.length_drop] at this; simp at this; omega
  obtain ⟨a, b, v, d1, d2, d3, d4, n⟩ := h
  have hu : unitsF (f + 1) (s.drop k) (L, C) = ⟨L, C, R, N⟩ :: unitsF f (s.drop (k + N)) (nextP (L, C) R) := by
    show (if s.drop k = [] then [] else _) = _
    rw [if_neg hne, he, List.drop_drop]
  have hn : 1 ≤ (nextP (L, C) R).1 ∧ (nextP (L, C) R).1 ≤ L + 1 ∧ 1 ≤ (nextP (L, C) R).2 ∧ (nextP (L, C) R).2 ≤ C + 1 := by
    unfold nextP; split <;> simp only <;> omega
  refine ⟨h2, by omega, ?_, hn.1, by omega, hn.2.2.1, by omega, by rw [List.length_append]; simp; omega⟩
  rw [v, hu, List.append_assoc]
  rfl

/-- the world between two rounds -/
structure UnW (s : List UInt8) (w : World) (A : Nat) (wr : World) (v : Value) (k : Nat) (acc : List Unt) : Prop where
  it : wr.heap[A]? = some (.stringIter ⟨s.toArray⟩ k)
  own : Owns wr w.heap.size 175 5 enUnt v acc
  far : ∀ j, v.ownBlock = some j → A < j
  bel : Below w.heap.size w wr
  sz : A < wr.heap.size
  low : w.heap.size ≤ A
theorem UnW.next {s : List UInt8} {w : World} {A : Nat} {wr : World} {v : Value} {k : Nat} {acc : List Unt} (h : UnW s w A wr v k acc) (k' : Nat) : UnW s w A (wr.iterAt A ⟨s.toArray⟩ k') v k' acc :=
  ⟨Lib.iterAt_heap wr A ⟨s.toArray⟩ k k' h.it, h.own.of_heap (fun j hj => Lib.iterAt_other _ _ _ _ _ (by have := h.far j hj; omega)), h.far,
    Lib.below_iterAt h.bel h.low _ _, by rw [Lib.iterAt_size]; exact h.sz, h.low⟩
theorem UnW.app {s : List UInt8} {w : World} {A : Nat} {wr w1 : World} {v v' : Value} {k : Nat} {acc acc' : List Unt} (h : UnW s w A wr v k acc) (ho : Owns w1 w.heap.size 175 5 enUnt v' acc') (hb : Below w.heap.size w w1) (hg : wr.grownBy w1 v.ownBlock) (hv : ∀ k, v'.ownBlock = some k → v.ownBlock = some k ∨ wr.heap.size ≤ k) : UnW s w A w1 v' k acc' := by
  have hsz := h.sz
  exact ⟨by rw [hg.block _ hsz (fun e => by have := h.far A e.symm; omega)]; exact h.it, ho, fun j hj => by rcases hv j hj with h1 | h1; exact h.far j h1; omega, hb, Nat.lt_of_lt_of_le hsz hg.size, h.low⟩

set_option maxRecDepth 100000 in
set_option maxHeartbeats 8000000 in
theorem units_any (s : List UInt8) (hs : s.length ≤ 1000000000) (w : World) :
    Calls Tryz.prog 100 #[.string ⟨s.toArray⟩] w fun e w' => ∃ a c, e = .returned (.slice a (unitsL s).length c) ∧ Owns w' w.heap.size 175 5 enUnt (.slice a (unitsL s).length c) (unitsL s) ∧ Below w.heap.size w w' := by
  have hI0 : UnI s 0 s.length 1 1 [] := ⟨Nat.zero_le _, Nat.le_refl _, rfl, by decide, by decide, by decide, by decide, Nat.le_refl _⟩
  have h0 : UnW s w w.heap.size (w.iter ⟨s.toArray⟩ 0) (.slice none 0 0) 0 [] :=
    ⟨World.iter_heap w ⟨s.toArray⟩ 0, Owns.nil _ _ _ _ _, (fun j h => by cases h), (Below.refl _ _).alloc (Nat.le_refl _) _, by simp [World.iter], Nat.le_refl _⟩
  have HI0 := Lib.hid hI0
  have H0 := Lib.hid h0
  clear hI0 h0
  go_enter Tryz.func100, Tryz.ntmps100
  go_wp2_with fail
  generalize w.iter ⟨s.toArray⟩ 0 = V0 at *
  go_loopw [3, 4, 5] (fun v xl xc wr => ∃ (k f : Nat) (L C : Int) (acc : List Unt), xl = .int .i64 L ∧ xc = .int .i64 C ∧ UnI s k f L C acc ∧ UnW s w w.heap.size wr v k acc) (fun _ _ _ wr => s.length - wr.iterPos w.heap.size)
  case atStart => exact ⟨0, s.length, 1, 1, [], rfl, rfl, HI0.out, H0.out⟩
  case round =>
    clear H0 HI0
    obtain ⟨k, f, L, C, acc, rfl, rfl, hI, hX⟩ := hrel
    have HM := Lib.hid (iterPos_of hX.it : wr.iterPos w.heap.size = k)
    by_cases hlt : k < s.length
    · obtain ⟨f, rfl⟩ : ∃ g, f = g + 1 := ⟨f - 1, by have := hI.hf; omega⟩
      obtain ⟨R, N, hde, hN1, hN2, hcase⟩ := unit_ref s k hlt
      have HST := Lib.hid (hI.step hlt hde hN1 hN2)
      have hps : k < (⟨s.toArray⟩ : ByteArray).size := hlt
      have hit := hX.it
      have hnx : ∀ ty, (Instr.next (.pointer (some ⟨w.heap.size, 0, none⟩)) true ty).run Tryz.prog wr = _ := fun ty => Lib.run_next_any_at wr w.heap.size ⟨s.toArray⟩ k ty hit hps
      rw [dec_drop, hde] at hnx
      simp only at hnx
      have HX := Lib.hid (hX.next (k + N))
      have hlen : (⟨s.toArray⟩ : ByteArray).size = s.length := rfl
      have hwC : IntKind.i64.wrap (C + 1) = C + 1 := by
        have h3 := hI.c1; have h4 := hI.c2
        unfold IntKind.wrap; simp [IntKind.bits, IntKind.signed]; omega
      have hwL : IntKind.i64.wrap (L + 1) = L + 1 := by
        have h3 := hI.l1; have h4 := hI.l2
        unfold IntKind.wrap; simp [IntKind.bits, IntKind.signed]; omega
      have hacc : acc.length ≤ k := hI.n
      generalize wr.iterAt w.heap.size ⟨s.toArray⟩ (k + N) = wv at *
      have hR : (((R : Int) == 10) = true ∧ nextP (L, C) R = (L + 1, 1)) ∨ (((R : Int) == 10) = false ∧ nextP (L, C) R = (L, C + 1)) := by
        by_cases h : R = 10
        · left; rw [h]; exact ⟨rfl, rfl⟩
        · right; exact ⟨by rw [beq_eq_false_iff_ne]; omega, by unfold nextP; rw [if_neg h]⟩
      have HR := Lib.hid hR
      clear hX hI hps hit hde hR
      have hg0 := get_atB s k hlt
      have hcase2 : (((R : Int) == 65533) = false ∧ illU R N = false ∧ (Utf8.encode (R : Int)).size = N) ∨
          (R = 65533 ∧ N = 3 ∧ k + 2 < s.length ∧ atB s k = 239 ∧ atB s (k + 1) = 191 ∧ atB s (k + 2) = 189) ∨
          (((R : Int) == 65533) = true ∧ illU R N = true ∧ N = 1 ∧ (s.length ≤ k + 2 ∨ (k + 2 < s.length ∧ (atB s k ≠ 239 ∨ (atB s k = 239 ∧ atB s (k + 1) ≠ 191) ∨ (atB s k = 239 ∧ atB s (k + 1) = 191 ∧ atB s (k + 2) ≠ 189))))) := by
        rcases hcase with ⟨h1, h2, h3⟩ | ⟨rfl, rfl, h2, h3, h4, h5, h6, h7⟩ | ⟨rfl, rfl, h2, h4⟩
        · exact .inl ⟨by rw [beq_eq_false_iff_ne]; omega, h2, h3⟩
        · exact .inr (.inl ⟨rfl, rfl, h4, h5, h6, h7⟩)
        · exact .inr (.inr ⟨rfl, h2, rfl, h4⟩)
      clear hcase
      rcases hcase2 with ⟨g, h2, h3⟩ | ⟨rfl, rfl, h4, h5, h6, h7⟩ | ⟨g, h2, h3, h4⟩
      · have HIL := Lib.hid h2
        clear h2
        rcases HR.out with ⟨gR, hn⟩ | ⟨gR, hn⟩
        · rw [hn] at HST
          clear hn HR
          go_wp2_with (at_builtin; go_loud (refine wpList_append_elem3 unts_ty acc ⟨L, C, R, N⟩ HX.out.own HX.out.bel (Nat.le_refl _) (by omega) ?_ (hy := by show _ = [_, _, _, _, Value.bool (illU R N)]; rw [HIL.out]) (hone := by simp [enUnt, Value.oneCell'])))
          intro v' w9 hown hbel hg hv
          have HX9 := Lib.hid (HX.out.app hown hbel hg hv)
          clear hown hbel hg hv
          go_wp2_with fail
          go_roundw
          case rel => exact ⟨k + N, f, L + 1, 1, _, rfl, rfl, HST.out, HX9.out⟩
          case measure => rw [iterPos_of HX9.out.it, HM.out]; omega
        · rw [hn] at HST
          clear hn HR
          go_wp2_with (at_builtin; go_loud (refine wpList_append_elem3 unts_ty acc ⟨L, C, R, N⟩ HX.out.own HX.out.bel (Nat.le_refl _) (by omega) ?_ (hy := by show _ = [_, _, _, _, Value.bool (illU R N)]; rw [HIL.out]) (hone := by simp [enUnt, Value.oneCell'])))
          intro v' w9 hown hbel hg hv
          have HX9 := Lib.hid (HX.out.app hown hbel hg hv)
          clear hown hbel hg hv
          go_wp2_with fail
          go_roundw
          case rel => exact ⟨k + N, f, L, C + 1, _, rfl, rfl, HST.out, HX9.out⟩
          case measure => rw [iterPos_of HX9.out.it, HM.out]; omega
      · have hg1 := get_atB s (k + 1) (by omega)
        have hg2 := get_atB s (k + 2) h4
        have q0 : (((atB s k).toNat : Int) != 239) = false := u8_neT (k := 239) (by decide) h5
        have q1 : (((atB s (k + 1)).toNat : Int) != 191) = false := u8_neT (k := 191) (by decide) h6
        have q2 : (((atB s (k + 2)).toNat : Int) != 189) = false := u8_neT (k := 189) (by decide) h7
        generalize atB s k = c0 at *
        generalize atB s (k + 1) = c1 at *
        generalize atB s (k + 2) = c2 at *
        have hcv : ∀ w, (convert 21 9 (.int .i32 65533)).run Tryz.prog w = .ok (.string ⟨#[239, 191, 189]⟩) w := fun w => by kernel_rfl
        have HN := Lib.hid (show UnI s (k + 3) f L (C + 1) (acc ++ [⟨L, C, 65533, 3⟩]) from HST.out)
        have hdl : decide ((s.length : Int) ≤ (k : Int) + 2) = false := decide_eq_false (by omega)
        clear h5 h6 h7 HR HST
        go_wp2_with (at_builtin; go_loud (refine wpList_append_elem3 unts_ty acc ⟨L, C, 65533, 3⟩ HX.out.own HX.out.bel (Nat.le_refl _) (by omega) ?_ (hone := by simp [enUnt, Value.oneCell'])))
        intro v' w9 hown hbel hg hv
        have HX9 := Lib.hid (HX.out.app hown hbel hg hv)
        clear hown hbel hg hv
        go_wp2_with fail
        go_roundw
        case rel => exact ⟨k + 3, f, L, C + 1, _, rfl, rfl, HN.out, HX9.out⟩
        case measure => rw [iterPos_of HX9.out.it, HM.out]; omega
      · subst h3
        have HIL := Lib.hid h2
        clear h2
        rcases h4 with h4 | ⟨h4, h5⟩
        · rcases HR.out with ⟨gR, hn⟩ | ⟨gR, hn⟩
          · rw [hn] at HST
            clear hn HR
            go_wp2_with (at_builtin; go_loud (refine wpList_append_elem3 unts_ty acc ⟨L, C, R, 1⟩ HX.out.own HX.out.bel (Nat.le_refl _) (by omega) ?_ (hy := by show _ = [_, _, _, _, Value.bool (illU R 1)]; rw [HIL.out]; rfl) (hone := by simp [enUnt, Value.oneCell'])))
            intro v' w9 hown hbel hg hv
            have HX9 := Lib.hid (HX.out.app hown hbel hg hv)
            clear hown hbel hg hv
            go_wp2_with fail
            go_roundw
            case rel => exact ⟨k + 1, f, L + 1, 1, _, rfl, rfl, HST.out, HX9.out⟩
            case measure => rw [iterPos_of HX9.out.it, HM.out]; omega
          · rw [hn] at HST
            clear hn HR
            go_wp2_with (at_builtin; go_loud (refine wpList_append_elem3 unts_ty acc ⟨L, C, R, 1⟩ HX.out.own HX.out.bel (Nat.le_refl _) (by omega) ?_ (hy := by show _ = [_, _, _, _, Value.bool (illU R 1)]; rw [HIL.out]; rfl) (hone := by simp [enUnt, Value.oneCell'])))
            intro v' w9 hown hbel hg hv
            have HX9 := Lib.hid (HX.out.app hown hbel hg hv)
            clear hown hbel hg hv
            go_wp2_with fail
            go_roundw
            case rel => exact ⟨k + 1, f, L, C + 1, _, rfl, rfl, HST.out, HX9.out⟩
            case measure => rw [iterPos_of HX9.out.it, HM.out]; omega
        · have hg1 := get_atB s (k + 1) (by omega)
          have hg2 := get_atB s (k + 2) h4
          have hq : (((atB s k).toNat : Int) != 239) = true ∨ ((((atB s k).toNat : Int) != 239) = false ∧ (((atB s (k + 1)).toNat : Int) != 191) = true) ∨ ((((atB s k).toNat : Int) != 239) = false ∧ (((atB s (k + 1)).toNat : Int) != 191) = false ∧ (((atB s (k + 2)).toNat : Int) != 189) = true) := by
            rcases h5 with h | ⟨h, h'⟩ | ⟨h, h', h''⟩
            · exact .inl (u8_neF (k := 239) (by decide) h)
            · exact .inr (.inl ⟨u8_neT (k := 239) (by decide) h, u8_neF (k := 191) (by decide) h'⟩)
            · exact .inr (.inr ⟨u8_neT (k := 239) (by decide) h, u8_neT (k := 191) (by decide) h', u8_neF (k := 189) (by decide) h''⟩)
          generalize atB s k = c0 at *
          generalize atB s (k + 1) = c1 at *
          generalize atB s (k + 2) = c2 at *
          clear h5
          rcases hq with q0 | ⟨q0, q1⟩ | ⟨q0, q1, q2⟩
          · rcases HR.out with ⟨gR, hn⟩ | ⟨gR, hn⟩
            · rw [hn] at HST
              clear hn HR
              go_wp2_with (at_builtin; go_loud (refine wpList_append_elem3 unts_ty acc ⟨L, C, R, 1⟩ HX.out.own HX.out.bel (Nat.le_refl _) (by omega) ?_ (hy := by show _ = [_, _, _, _, Value.bool (illU R 1)]; rw [HIL.out]; rfl) (hone := by simp [enUnt, Value.oneCell'])))
              intro v' w9 hown hbel hg hv
              have HX9 := Lib.hid (HX.out.app hown hbel hg hv)
              clear hown hbel hg hv
              go_wp2_with fail
              go_roundw
              case rel => exact ⟨k + 1, f, L + 1, 1, _, rfl, rfl, HST.out, HX9.out⟩
              case measure => rw [iterPos_of HX9.out.it, HM.out]; omega
            · rw [hn] at HST
              clear hn HR
              go_wp2_with (at_builtin; go_loud (refine wpList_append_elem3 unts_ty acc ⟨L, C, R, 1⟩ HX.out.own HX.out.bel (Nat.le_refl _) (by omega) ?_ (hy := by show _ = [_, _, _, _, Value.bool (illU R 1)]; rw [HIL.out]; rfl) (hone := by simp [enUnt, Value.oneCell'])))
              intro v' w9 hown hbel hg hv
              have HX9 := Lib.hid (HX.out.app hown hbel hg hv)
              clear hown hbel hg hv
              go_wp2_with fail
              go_roundw
              case rel => exact ⟨k + 1, f, L, C + 1, _, rfl, rfl, HST.out, HX9.out⟩
              case measure => rw [iterPos_of HX9.out.it, HM.out]; omega
          · rcases HR.out with ⟨gR, hn⟩ | ⟨gR, hn⟩
            · rw [hn] at HST
              clear hn HR
              go_wp2_with (at_builtin; go_loud (refine wpList_append_elem3 unts_ty acc ⟨L, C, R, 1⟩ HX.out.own HX.out.bel (Nat.le_refl _) (by omega) ?_ (hy := by show _ = [_, _, _, _, Value.bool (illU R 1)]; rw [HIL.out]; rfl) (hone := by simp [enUnt, Value.oneCell'])))
              intro v' w9 hown hbel hg hv
              have HX9 := Lib.hid (HX.out.app hown hbel hg hv)
              clear hown hbel hg hv
              go_wp2_with fail
              go_roundw
              case rel => exact ⟨k + 1, f, L + 1, 1, _, rfl, rfl, HST.out, HX9.out⟩
              case measure => rw [iterPos_of HX9.out.it, HM.out]; omega
            · rw [hn] at HST
              clear hn HR
              go_wp2_with (at_builtin; go_loud (refine wpList_append_elem3 unts_ty acc ⟨L, C, R, 1⟩ HX.out.own HX.out.bel (Nat.le_refl _) (by omega) ?_ (hy := by show _ = [_, _, _, _, Value.bool (illU R 1)]; rw [HIL.out]; rfl) (hone := by simp [enUnt, Value.oneCell'])))
              intro v' w9 hown hbel hg hv
              have HX9 := Lib.hid (HX.out.app hown hbel hg hv)
              clear hown hbel hg hv
              go_wp2_with fail
              go_roundw
              case rel => exact ⟨k + 1, f, L, C + 1, _, rfl, rfl, HST.out, HX9.out⟩
              case measure => rw [iterPos_of HX9.out.it, HM.out]; omega
          · rcases HR.out with ⟨gR, hn⟩ | ⟨gR, hn⟩
            · rw [hn] at HST
              clear hn HR
              go_wp2_with (at_builtin; go_loud (refine wpList_append_elem3 unts_ty acc ⟨L, C, R, 1⟩ HX.out.own HX.out.bel (Nat.le_refl _) (by omega) ?_ (hy := by show _ = [_, _, _, _, Value.bool (illU R 1)]; rw [HIL.out]; rfl) (hone := by simp [enUnt, Value.oneCell'])))
              intro v' w9 hown hbel hg hv
              have HX9 := Lib.hid (HX.out.app hown hbel hg hv)
              clear hown hbel hg hv
              go_wp2_with fail
              go_roundw
              case rel => exact ⟨k + 1, f, L + 1, 1, _, rfl, rfl, HST.out, HX9.out⟩
              case measure => rw [iterPos_of HX9.out.it, HM.out]; omega
            · rw [hn] at HST
              clear hn HR
              go_wp2_with (at_builtin; go_loud (refine wpList_append_elem3 unts_ty acc ⟨L, C, R, 1⟩ HX.out.own HX.out.bel (Nat.le_refl _) (by omega) ?_ (hy := by show _ = [_, _, _, _, Value.bool (illU R 1)]; rw [HIL.out]; rfl) (hone := by simp [enUnt, Value.oneCell'])))
              intro v' w9 hown hbel hg hv
              have HX9 := Lib.hid (HX.out.app hown hbel hg hv)
              clear hown hbel hg hv
              go_wp2_with fail
              go_roundw
              case rel => exact ⟨k + 1, f, L, C + 1, _, rfl, rfl, HST.out, HX9.out⟩
              case measure => rw [iterPos_of HX9.out.it, HM.out]; omega
    · have hks : k = s.length := by have := hI.hk; omega
      have HV := Lib.hid (show unitsL s = acc by rw [hI.hv, hks, List.drop_length, unitsF_nil, List.append_nil])
      have hit := hX.it
      have hps : ¬ k < (⟨s.toArray⟩ : ByteArray).size := hlt
      have hnx : ∀ ty, (Instr.next (.pointer (some ⟨w.heap.size, 0, none⟩)) true ty).run Tryz.prog wr = _ := fun ty => Lib.run_next_end_at wr w.heap.size ⟨s.toArray⟩ k ty hit hps
      obtain ⟨a, c, rfl, _⟩ := hX.own.shape
      have HX := Lib.hid hX
      clear hps hit hks hX hI HM hlt
      go_wp2_with fail
      go_ret
      rw [HV.out]
      exact ⟨a, c, rfl, HX.out.own, HX.out.bel⟩
end Go.Proofs.YtlgbgobpdkilaaaGreatDoor

namespace Go.Proofs.YtlgbgobpdkilaaaGreatDoor
set_option linter.unusedVariables false
open Go.RowKit Go.Shelf

def chk3V (s : List UInt8) : Value := if 1048576 < s.length then .tuple #[.int .i64 5, .agg #[.int .i64 0, .int .i64 0]] else match checkL s with
  | none => .tuple #[.int .i64 0, .agg #[.int .i64 0, .int .i64 0]]
  | some u => .tuple #[.int .i64 6, .agg #[.int .i64 u.line, .int .i64 u.col]]
theorem unts_len (s : List UInt8) : (unitsL s).length ≤ s.length := unitsF_len _ _ _
theorem unt_rune (s : List UInt8) (k : Nat) (hk : k < (unitsL s).length) : (unitsL s)[k].rune ≤ 1114111 := by
  rw [(unit_at s k hk).2.1]; exact dec_max _

theorem any_or {α : Type} (p q : α → Bool) : ∀ l : List α, (l.any p || l.any q) = l.any fun x => p x || q x
  | [] => rfl
  | a :: l => by
    rw [List.any_cons, List.any_cons, List.any_cons, ← any_or p q l]
    cases p a <;> cases q a <;> cases l.any p <;> cases l.any q <;> rfl
set_option maxRecDepth 100000 in
set_option maxHeartbeats 8000000 in
theorem may3_any (s : List UInt8) (hs : s.length ≤ 9223372036854775807) (w : World) :
    Calls Tryz.prog 68 #[.string ⟨s.toArray⟩] w fun e w' => e = .returned (.int .i64 (mayN s : Nat)) ∧ Below w.heap.size w w' := by
  obtain ⟨V, hV⟩ : ∃ V, V = mayN s := ⟨_, rfl⟩
  rw [← hV]
  unfold mayN at hV
  by_cases hlong : (1024 : Int) < s.length
  · rw [if_pos (by omega)] at hV
    have HN := Lib.hid hV
    clear hV
    go_enter Tryz.func68, Tryz.ntmps68
    go_wp2_with fail
    go_ret
    exact ⟨by rw [HN.out] <;> rfl, Below.refl _ _⟩
  · rw [if_neg (by omega), any_or] at hV
    have cU := fun w => units_any s (by omega) w
    have HV := Lib.hid hV
    have hul := unts_len s
    have hn63 : (unitsL s).length ≤ 1024 := by omega
    clear hV hs hul
    go_enter Tryz.func68, Tryz.ntmps68
    go_wp2_with fail
    with_reducible refine (cU _).mono ?_
    rintro e w1 ⟨a, c, rfl, ho, hb⟩
    have HB1 := Lib.hid hb
    have HS := Lib.hid ho.sl.2
    clear hb ho cU hlong
    go_wp2_with fail
    go_loopw [4] (fun x wr => ∃ k : Nat, x = .int .i64 (k : Nat) ∧ k ≤ (unitsL s).length ∧ (∀ j, (h : j < (unitsL s).length) → j < k → (illU (unitsL s)[j].rune (unitsL s)[j].wide || ctlU (unitsL s)[j].rune) = false) ∧ wr = w1) (fun x _ => (unitsL s).length - (intOf x).toNat)
    case atStart => exact ⟨0, rfl, Nat.zero_le _, fun j _ h => absurd h (Nat.not_lt_zero _), rfl⟩
    case round =>
      obtain ⟨k, rfl, hk, hno, rfl⟩ := hrel
      by_cases hlt : (k : Int) < (unitsL s).length
      · have hlt' : k < (unitsL s).length := by omega
        obtain ⟨b, o, rfl, hbs, e0, e1, e2, e3, e4⟩ := unt_at HS.out hlt'
        have HNX := Lib.hid (show (illU (unitsL s)[k].rune (unitsL s)[k].wide || ctlU (unitsL s)[k].rune) = false → ∀ j, (h : j < (unitsL s).length) → j < k + 1 → (illU (unitsL s)[j].rune (unitsL s)[j].wide || ctlU (unitsL s)[j].rune) = false from fun hb j h h2 => by
          by_cases hj : j < k
          · exact hno j h hj
          · obtain rfl : j = k := by omega
            exact hb)
        have HV2 := Lib.hid (show (illU (unitsL s)[k].rune (unitsL s)[k].wide || ctlU (unitsL s)[k].rune) = true → V = 6 from fun hb => by
          have h2 := HV.out
          rw [if_pos (List.any_eq_true.2 ⟨(unitsL s)[k], List.getElem_mem _, hb⟩)] at h2
          exact h2)
        have cc := fun w => control3_any (unitsL s)[k].rune w
        clear hno HV
        generalize illU (unitsL s)[k].rune (unitsL s)[k].wide = bi at *
        generalize ctlU (unitsL s)[k].rune = bc at *
        generalize (unitsL s)[k].rune = R at *
        cases bi
        · cases bc
          · have HX := Lib.hid (HNX.out rfl)
            clear HNX HV2
            go_wp2_with fail
            with_reducible refine (cc _).mono ?_
            rintro e w2 ⟨rfl, rfl⟩
            go_wp2_with fail
            go_roundw
            case rel => exact ⟨k + 1, by first | rfl | go_num, by omega, HX.out, by first | rfl | trivial⟩
            case measure => (simp [intOf] <;> omega)
          · have HX := Lib.hid (HV2.out rfl)
            clear HNX HV2
            go_wp2_with fail
            with_reducible refine (cc _).mono ?_
            rintro e w2 ⟨rfl, rfl⟩
            go_wp2_with fail
            go_ret
            exact ⟨by rw [HX.out] <;> rfl, HB1.out⟩
        · have HX := Lib.hid (HV2.out rfl)
          clear HNX HV2
          go_wp2_with fail
          go_ret
          exact ⟨by rw [HX.out] <;> rfl, HB1.out⟩
      · have HX := Lib.hid (show V = 0 by
          have h2 := HV.out
          rw [if_neg] at h2
          · exact h2
          · intro h
            obtain ⟨u, hu, h3⟩ := List.any_eq_true.1 h
            obtain ⟨j, hj, rfl⟩ := List.getElem_of_mem hu
            rw [hno j hj (by omega)] at h3
            cases h3)
        clear hno HV
        go_wp2_with fail
        go_ret
        exact ⟨by rw [HX.out] <;> rfl, HB1.out⟩
end Go.Proofs.YtlgbgobpdkilaaaGreatDoor
