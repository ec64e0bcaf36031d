/-
  The reference of chapter 04: Scan: contract.
-/
import Derived.Test.YtmifjfohanegiaaDoorRlxF
import Derived.Test.YtmifjfohanegiaaDoorRlxG
namespace Go.Proofs.YtmifjfohanegiaaDoor
set_option linter.unusedVariables false
open Go.RowKit Go.Shelf

/-- an error of a scan: its number; where -/
def ErrAt (v : Value) (no L C : Int) : Prop := (v = errV no ∧ L = 0 ∧ C = 0 ∨ v = faultV no L C ∧ 0 < L) ∧ 1 ≤ no ∧ no ≤ 26
def RetRef (w : World) (r : ScanR) (e : Ending) (w' : World) : Prop := match r with
  | .bad v => ∃ no L C, e = .returned (.tuple #[.slice none 0 0, .int .i64 no, .agg #[.int .i64 L, .int .i64 C]]) ∧ Below w.heap.size w w' ∧ ErrAt v no L C
  | .good l => ∃ a c, e = .returned (.tuple #[.slice a l.length c, .int .i64 0, .agg #[.int .i64 0, .int .i64 0]]) ∧ Owns w' w.heap.size 39 4 enTok (.slice a l.length c) l ∧ Below w.heap.size w w'
structure ScW (PL : List (Int × Int)) (w : World) (A : Nat) (pv : Value) (wr : World) (v : Value) (acc : List TokD) : Prop where
  own : Owns wr w.heap.size 39 4 enTok v acc
  pl : Owns wr w.heap.size 28 2 enPl pv PL
  bk : Blk wr A #[.int .i64 0, .int .i64 0]
  far : ∀ j, v.ownBlock = some j → A < j
  pa : ∀ j, pv.ownBlock = some j → A < j
  bel : Below w.heap.size w wr
  sz : A < wr.heap.size
  low : w.heap.size ≤ A
theorem ScW.below {PL : List (Int × Int)} {w : World} {A : Nat} {pv : Value} {wr w' : World} {v : Value} {acc : List TokD} (h : ScW PL w A pv wr v acc) (hb : Below wr.heap.size wr w') : ScW PL w A pv w' v acc :=
  ⟨h.own.keep hb (Nat.le_refl _), h.pl.keep hb (Nat.le_refl _), h.bk.keep hb (Nat.le_refl _), h.far, h.pa, bstep h.bel hb (Nat.le_refl _), Nat.lt_of_lt_of_le h.sz hb.size, h.low⟩
theorem ScW.app {PL : List (Int × Int)} {w : World} {A : Nat} {pv : Value} {wr w1 : World} {v v' : Value} {acc acc' : List TokD} (h : ScW PL w A pv wr v acc) (ho : Owns w1 w.heap.size 39 4 enTok v' acc') (hb : Below w.heap.size w w1) (hg : wr.grownBy w1 v.ownBlock) (hv : ∀ k, v'.ownBlock = some k → v.ownBlock = some k ∨ wr.heap.size ≤ k) : ScW PL w A pv w1 v' acc' := by
  have hsz := h.sz
  exact ⟨ho, h.pl.other hg (h.own.kind h.pl (by decide)), h.bk.same (hg.block _ hsz (fun e => by have := h.far A e.symm; omega)), fun j hj => by rcases hv j hj with h1 | h1; exact h.far j h1; omega, h.pa, hb, Nat.lt_of_lt_of_le hsz hg.size, h.low⟩
theorem scan_place {s : List UInt8} {V : ScanR} {i : Nat} {acc : List TokD} {q : Int × Int} (h : RefI s V i acc q) : ∃ hi : i < (placesF s.length s (1, 1)).length, (placesF s.length s (1, 1))[i] = q := by
  have := h.place
  rw [List.getElem?_eq_some_iff] at this
  exact this
theorem Bnd.pos {s : List UInt8} {p q : Int × Int} {n : Nat} (h : Bnd s p n q) (hp : 0 < p.1) : 0 < q.1 := by
  induction h with
  | zero s p => exact hp
  | step s p n q hne h ih =>
    apply ih
    unfold nextP
    split
    · simp only; omega
    · exact hp
theorem scan_plain_cases (s : List UInt8) :
    (1048576 < s.length ∧ scanL s = .bad (errV 5) ∧ chk3V s = .tuple #[.int .i64 5, .agg #[.int .i64 0, .int .i64 0]]) ∨
    (∃ u : Unt, 0 < u.line ∧ scanL s = .bad (faultV 6 u.line u.col) ∧ chk3V s = .tuple #[.int .i64 6, .agg #[.int .i64 u.line, .int .i64 u.col]]) ∨
    (s.length ≤ 1048576 ∧ scanL s = scanF s.length s 0 (1, 1) [] ∧ chk3V s = .tuple #[.int .i64 0, .agg #[.int .i64 0, .int .i64 0]]) := by
  unfold scanL chk3V
  by_cases h : 1048576 < s.length
  · rw [if_pos h, if_pos h]; exact .inl ⟨h, rfl, rfl⟩
  · rw [if_neg h, if_neg h]
    cases hc : checkL s with
    | none => exact .inr (.inr ⟨by omega, rfl, rfl⟩)
    | some u =>
      refine .inr (.inl ⟨u, ?_, rfl, rfl⟩)
      have hm := List.mem_of_find?_eq_some hc
      obtain ⟨k, hk, rfl⟩ := List.getElem_of_mem hm
      have := unit_bd s k hk
      omega

set_option maxRecDepth 100000 in
set_option maxHeartbeats 16000000 in
theorem scan4_any (s : List UInt8) (hs : s.length ≤ 9223372036854775807) (w : World) :
    Calls Tryd.prog 5 #[.string ⟨s.toArray⟩] w (RetRef w (scanL s)) := by
  have cK := fun w => check3_any s hs w
  obtain ⟨V, hV⟩ : ∃ V, V = scanL s := ⟨_, rfl⟩
  rw [← hV]
  have HB0 := Lib.hid ((Below.refl w.heap.size w).alloc (Nat.le_refl _) (.cells #[.int .i64 0, .int .i64 0] 28))
  have HK0 := Lib.hid (Blk.new w #[.int .i64 0, .int .i64 0] 28)
  have HS0 := Lib.hid (World.size_alloc w (.cells #[.int .i64 0, .int .i64 0] 28))
  have hcases := scan_plain_cases s
  rw [← hV] at hcases
  have HC := Lib.hid hcases
  clear hV hcases
  go_enter Tryd.func5, Tryd.ntmps5
  go_wp2_with fail
  generalize w.alloc (.cells #[.int .i64 0, .int .i64 0] 28) = W at *
  rcases HC.out with ⟨h1, h2, h3⟩ | ⟨u, h1, h2, h3⟩ | ⟨h1, h2, h3⟩
  · rw [h3] at cK
    have HV := Lib.hid h2
    clear HC h1 h2 h3 hs
    with_reducible refine (cK _).mono ?_
    rintro e w1 ⟨rfl, hb⟩
    have HB1 := Lib.hid ((bstep HB0.out hb (Nat.le_refl _)).alloc (Nat.le_trans HB0.out.size hb.size) (.cells #[.int .i64 5, .int .i64 0] 28))
    have HB2 := Lib.hid ((bstep HB0.out hb (Nat.le_refl _)).alloc (Nat.le_trans HB0.out.size hb.size) (.cells #[.int .i64 0, .int .i64 0] 28))
    have hk1 := (HK0.out.keep hb (Nat.le_refl _)).alloc (.cells #[.int .i64 0, .int .i64 0] 28)
    have hk2 := Blk.new w1 #[.int .i64 0, .int .i64 0] 28
    have hne : w.heap.size ≠ w1.heap.size := by have h9 := HS0.out; have h8 := hb.size; omega
    clear hb cK HB1
    obtain ⟨r0, r1, f0, f1⟩ := hk1.two
    obtain ⟨t0, t1, g0, g1⟩ := hk2.two
    go_wp2_with fail
    generalize w1.alloc (.cells #[.int .i64 0, .int .i64 0] 28) = w2 at *
    go_still_tail 4, (by kernel_rfl)
    change wpList _ _ _ _ _ (World.drew _)
    go_wp2_with fail
    exact bodyPost_ret (v := .tuple #[.slice none 0 0, .int .i64 5, .agg #[.int .i64 0, .int .i64 0]]) (by simp [results, Tryd.results5, go_sem, r0, r1]) rfl (by rw [HV.out]; exact ⟨5, 0, 0, rfl, (HB2.out.drew.setCell (p := ⟨w.heap.size, 0, none⟩) (Nat.le_refl _) _).setCell (p := ⟨w.heap.size, 1, none⟩) (Nat.le_refl _) _, .inl ⟨rfl, rfl, rfl⟩, by decide, by decide⟩)
  · rw [h3] at cK
    have HV := Lib.hid h2
    have HPOS := Lib.hid h1
    clear HC h1 h2 h3 hs
    generalize u.line = L at *
    generalize u.col = C at *
    with_reducible refine (cK _).mono ?_
    rintro e w1 ⟨rfl, hb⟩
    have HB2 := Lib.hid ((bstep HB0.out hb (Nat.le_refl _)).alloc (Nat.le_trans HB0.out.size hb.size) (.cells #[.int .i64 L, .int .i64 C] 28))
    have hk1 := (HK0.out.keep hb (Nat.le_refl _)).alloc (.cells #[.int .i64 L, .int .i64 C] 28)
    have hk2 := Blk.new w1 #[.int .i64 L, .int .i64 C] 28
    have hne : w.heap.size ≠ w1.heap.size := by have h9 := HS0.out; have h8 := hb.size; omega
    clear hb cK
    obtain ⟨r0, r1, f0, f1⟩ := hk1.two
    obtain ⟨t0, t1, g0, g1⟩ := hk2.two
    go_wp2_with fail
    generalize w1.alloc (.cells #[.int .i64 L, .int .i64 C] 28) = w2 at *
    go_still_tail 4, (by kernel_rfl)
    change wpList _ _ _ _ _ (World.drew _)
    go_wp2_with fail
    exact bodyPost_ret (v := .tuple #[.slice none 0 0, .int .i64 6, .agg #[.int .i64 L, .int .i64 C]]) (by simp [results, Tryd.results5, go_sem, r0, r1]) rfl (by rw [HV.out]; exact ⟨6, L, C, rfl, (HB2.out.drew.setCell (p := ⟨w.heap.size, 0, none⟩) (Nat.le_refl _) _).setCell (p := ⟨w.heap.size, 1, none⟩) (Nat.le_refl _) _, .inr ⟨rfl, HPOS.out⟩, by decide, by decide⟩)
  · rw [h3] at cK
    have cP := fun w => places4_any s h1 w
    have hR0 : RefI s V 0 [] (1, 1) := ⟨Nat.zero_le _, .zero _ _, by rw [h2]; rfl⟩
    have HR0 := Lib.hid hR0
    have HPL := Lib.hid (places_len s.length s (1, 1) (Nat.le_refl _))
    have HSP := Lib.hid (show ∀ i acc q, RefI s V i acc q → ∃ hi : i < (placesF s.length s (1, 1)).length, (placesF s.length s (1, 1))[i] = q from fun _ _ _ h => scan_place h)
    clear HC h2 h3 hs hR0
    with_reducible refine (cK _).mono ?_
    rintro e w1 ⟨rfl, hb⟩
    have HB2 := Lib.hid ((bstep HB0.out hb (Nat.le_refl _)).alloc (Nat.le_trans HB0.out.size hb.size) (.cells #[.int .i64 0, .int .i64 0] 28))
    have HK1 := Lib.hid ((HK0.out.keep hb (Nat.le_refl _)).alloc (.cells #[.int .i64 0, .int .i64 0] 28))
    have HZ := Lib.hid (show w.heap.size < (w1.alloc (.cells #[.int .i64 0, .int .i64 0] 28)).heap.size by rw [World.size_alloc]; have h9 := HS0.out; have h8 := hb.size; omega)
    clear hb cK HB0 HK0 HS0
    go_wp2_with fail
    generalize w1.alloc (.cells #[.int .i64 0, .int .i64 0] 28) = w2 at *
    with_reducible refine (cP _).mono ?_
    rintro e w3 ⟨a, c, rfl, hop, hb⟩
    have hW0 : ScW (placesF s.length s (1, 1)) w w.heap.size (.slice a (s.length + 1) c) w3 (.slice none 0 0) [] :=
      ⟨Owns.nil _ _ _ _ _, hop.fromBase HB2.out.size, HK1.out.keep hb (Nat.le_refl _), (fun j h => by cases h), (fun j hj => by have h1 := (hop.lt j hj).1; have h2 := HZ.out; omega), bstep HB2.out hb (Nat.le_refl _), Nat.lt_of_lt_of_le HZ.out hb.size, Nat.le_refl _⟩
    have HW0 := Lib.hid hW0
    clear hW0 hop hb cP HB2 HK1 HZ
    generalize placesF s.length s (1, 1) = PL at *
    go_wp2_with fail
    go_loopw [8, 9, 10] (fun v x y wr => ∃ (i n : Nat) (acc : List TokD) (q : Int × Int), x = .int .i64 (i : Nat) ∧ y = .int .i64 (n : Nat) ∧ n ≤ i ∧ acc.length ≤ i ∧ RefI s V i acc q ∧ ScW PL w w.heap.size (.slice a (s.length + 1) c) wr v acc) (fun _ x _ _ => s.length - (intOf x).toNat)
    case atStart => exact ⟨0, 0, [], (1, 1), rfl, rfl, Nat.le_refl _, Nat.le_refl _, HR0.out, HW0.out⟩
    case round =>
      clear HR0 HW0
      obtain ⟨i, n, acc, q, rfl, rfl, hn, hal, hR, hX⟩ := hrel
      obtain ⟨hpi, hpq⟩ := HSP.out i acc q hR
      have hpl := hX.pl.sl.2
      have HQ := Lib.hid (hR.hb.pos (by decide))
      have HX := Lib.hid hX
      obtain ⟨q1, q2⟩ := q
      by_cases hlt : (i : Int) < s.length
      · have hlt' : i < s.length := by omega
        have hnl : (n : Int) < s.length := by omega
        have hib : (i : Int) < (s.length : Int) + 1 := by omega
        have hib2 : (i : Int) < ((s.length + 1 : Nat) : Int) := by omega
        have hib3 : i < s.length + 1 := by omega
        have hget : (⟨s.toArray⟩ : ByteArray)[i]'hlt' = s[i] := rfl
        have hne : s.drop i ≠ [] := by rw [List.drop_eq_getElem_cons hlt']; exact List.cons_ne_nil _ _
        have hok := tokR_ok (s.drop i) hne
        have HBL := Lib.hid (hR.blank hlt')
        have HBD := Lib.hid (fun (hb : blankU s[i].toNat = false) (e : Nat) (ht : tokR (s.drop i) = .bad e) => hR.bad hlt' hb ht)
        have HGD := Lib.hid (fun (hb : blankU s[i].toNat = false) (k : Int) (t : List UInt8) (n : Nat) (ht : tokR (s.drop i) = .good k t n) => hR.good hlt' hb ht)
        have cb := fun w => blank3_any s[i].toNat w
        have c1 := fun w => one4_any s i (by omega) hlt' w
        have hw : IntKind.i32.wrap (s[i].toNat : Int) = (s[i].toNat : Int) := by
          have := UInt8.toNat_lt s[i]
          unfold IntKind.wrap; simp [IntKind.bits, IntKind.signed]; omega
        clear hR hX hne
        generalize s[i] = ch at *
        cases hb : blankU ch.toNat
        · rw [hb] at cb
          cases htk : tokR (s.drop i) with
          | bad e0 =>
            rw [htk] at c1 hok
            have HV := Lib.hid (HBD.out hb e0 htk)
            have he0 : 0 < e0 ∧ e0 < 9 := hok
            have ge : ((e0 : Int) != 0) = true := by rw [bne_iff_ne]; omega
            have c2 : ∀ w, Calls Tryd.prog 15 #[.string ⟨s.toArray⟩, .int .i64 (i : Nat)] w fun e w' => e = .returned (.tuple #[.agg #[.int .i64 0, .string ⟨#[]⟩, .int .i64 0, .int .i64 0], .int .i64 0, .int .i64 (e0 : Nat)]) ∧ Below w.heap.size w w' := c1
            clear c1 hok htk hb HBL HBD HGD hpl
            go_wp2_with fail
            with_reducible refine (cb _).mono ?_
            rintro e w4 ⟨rfl, rfl⟩
            go_wp2_with fail
            with_reducible refine (c2 _).mono ?_
            rintro e w5 ⟨rfl, hb5⟩
            have HX5 := Lib.hid ((HX.out.below hb5).below ((Below.refl w5.heap.size w5).alloc (Nat.le_refl _) (.cells #[.int .i64 0, .string ⟨#[]⟩, .int .i64 0, .int .i64 0] 39)))
            obtain ⟨bp, op, hap, hbp, p0, p1⟩ := pl_at HX5.out.pl.sl.2 hpi
            subst hap
            rw [hpq] at p0 p1
            obtain ⟨r0, r1, f0, f1⟩ := HX5.out.bk.two
            have hpne : w.heap.size ≠ bp := by have := HX5.out.pa bp rfl; omega
            clear hb5 c2 cb
            go_wp2_with fail
            generalize w5.alloc (.cells #[.int .i64 0, .string ⟨#[]⟩, .int .i64 0, .int .i64 0] 39) = w6 at *
            go_still_tail 7, (by kernel_rfl)
            change wpList _ _ _ _ _ (World.drew _)
            go_wp2_with fail
            exact bodyPost_ret (v := .tuple #[.slice none 0 0, .int .i64 (e0 : Nat), .agg #[.int .i64 q1, .int .i64 q2]]) (by simp [results, Tryd.results5, go_sem, r0, r1]) rfl (by rw [HV.out]; exact ⟨(e0 : Nat), q1, q2, rfl, (HX5.out.bel.drew.setCell (p := ⟨w.heap.size, 0, none⟩) (Nat.le_refl _) _).setCell (p := ⟨w.heap.size, 1, none⟩) (Nat.le_refl _) _, .inr ⟨rfl, HQ.out⟩, by omega, by omega⟩)
          | good kk t m =>
            rw [htk] at c1 hok
            obtain ⟨hm1, q', hR2⟩ := HGD.out hb kk t m htk
            have HR2 := Lib.hid hR2
            have hml : i + m ≤ s.length := hR2.hk
            have c2 : ∀ w, Calls Tryd.prog 15 #[.string ⟨s.toArray⟩, .int .i64 (i : Nat)] w fun e w' => e = .returned (.tuple #[.agg #[.int .i64 kk, .string ⟨t.toArray⟩, .int .i64 0, .int .i64 0], .int .i64 ((i + m : Nat) : Int), .int .i64 0]) ∧ Below w.heap.size w w' := c1
            clear c1 hok htk hb HBL HBD HGD hpl hR2
            go_wp2_with fail
            with_reducible refine (cb _).mono ?_
            rintro e w4 ⟨rfl, rfl⟩
            go_wp2_with fail
            with_reducible refine (c2 _).mono ?_
            rintro e w5 ⟨rfl, hb5⟩
            have hx5 := HX.out.below hb5
            have HX6 := Lib.hid (hx5.below ((Below.refl w5.heap.size w5).alloc (Nat.le_refl _) (.cells #[.int .i64 kk, .string ⟨t.toArray⟩, .int .i64 0, .int .i64 0] 39)))
            have HX7 := Lib.hid (hx5.below ((((Below.refl w5.heap.size w5).alloc (Nat.le_refl _) (.cells #[.int .i64 kk, .string ⟨t.toArray⟩, .int .i64 0, .int .i64 0] 39)).setCell (p := ⟨w5.heap.size, 2, none⟩) (Nat.le_refl _) (.int .i64 q1)).setCell (p := ⟨w5.heap.size, 3, none⟩) (Nat.le_refl _) (.int .i64 q2)))
            have hk6 := Blk.new w5 #[.int .i64 kk, .string ⟨t.toArray⟩, .int .i64 0, .int .i64 0] 39
            have hk7 := (hk6.st 2 (.int .i64 q1)).st 3 (.int .i64 q2)
            obtain ⟨bp, op, hap, hbp, p0, p1⟩ := pl_at HX6.out.pl.sl.2 hpi
            subst hap
            rw [hpq] at p0 p1
            have hbp5 : w5.heap.size ≠ bp := by have := (hx5.pl.lt bp rfl).2; omega
            obtain ⟨⟨r0, r1, r2, r3⟩, f0, f1, f2, f3⟩ := hk6.four
            obtain ⟨⟨t0, t1, t2, t3⟩, g0, g1, g2, g3⟩ := (show Blk _ w5.heap.size #[.int .i64 kk, .string ⟨t.toArray⟩, .int .i64 q1, .int .i64 q2] from hk7).four
            clear hb5 c2 cb hx5 hk6 hk7
            have HSZ := Lib.hid (World.size_alloc w5 (.cells #[.int .i64 kk, .string ⟨t.toArray⟩, .int .i64 0, .int .i64 0] 39))
            go_upto_region 15 with fail
            generalize w5.alloc (.cells #[.int .i64 kk, .string ⟨t.toArray⟩, .int .i64 0, .int .i64 0] 39) = w6 at *
            generalize w5.heap.size = T at *
            go_wp2_with (at_builtin; go_loud (refine wpList_append_elem3 toks_ty acc ⟨kk, t, q1, q2⟩ HX7.out.own HX7.out.bel (Nat.le_refl _) (by omega) ?_ (hx := by rw [World.size_setCell, World.size_setCell, HSZ.out]; rfl) (hone := by simp [enTok, Value.oneCell'])))
            intro v' w9 hown hbel hg hv
            have HX9 := Lib.hid (HX7.out.app hown hbel hg (fun k hk => by have := hv k hk; simpa using this))
            clear hown hbel hg hv r0 r1 r2 r3 f0 f1 f2 f3 t0 t1 t2 t3 g0 g1 g2 g3 p0 p1
            go_wp2_with fail
            go_roundw
            case rel => exact ⟨i + m, n + 1, _, q', by first | rfl | go_num, by first | rfl | go_num, by omega, by rw [List.length_append]; simp; omega, HR2.out, HX9.out⟩
            case measure => (simp [intOf] <;> omega)
        · rw [hb] at cb
          obtain ⟨q', hR2⟩ := HBL.out hb
          have HR2 := Lib.hid hR2
          clear c1 hok hb HBL HBD HGD hpl hR2
          go_wp2_with fail
          with_reducible refine (cb _).mono ?_
          rintro e w4 ⟨rfl, rfl⟩
          go_wp2_with fail
          go_roundw
          case rel => exact ⟨i + 1, n + 1, acc, q', by first | rfl | go_num, by first | rfl | go_num, by omega, by omega, HR2.out, HX.out⟩
          case measure => (simp [intOf] <;> omega)
      · have hil : i = s.length := by have := hR.hk; omega
        have HV := Lib.hid (hR.fin hil)
        obtain ⟨bp, op, hap, hbp, p0, p1⟩ := pl_at hpl hpi
        subst hap
        rw [hpq] at p0 p1
        obtain ⟨r0, r1, f0, f1⟩ := hX.bk.two
        subst hil
        have hbnd : (acc.length + 1) * 40 ≤ 140737488355328 := by omega
        have HBN := Lib.hid hbnd
        clear hR hX hpl hbnd
        by_cases hnn : (n : Int) < s.length
        all_goals
          go_wp2_with (at_builtin; go_loud (refine wpList_append_elem3 toks_ty acc (endTok (q1, q2)) HX.out.own HX.out.bel (Nat.le_refl _) HBN.out ?_ (hone := by simp [enTok, endTok, Value.oneCell'])))
          intro v' w9 hown hbel hg hv
          have HX9 := Lib.hid (HX.out.app hown hbel hg hv)
          obtain ⟨a9, c9, rfl, _⟩ := hown.shape
          clear hown hbel hg hv r0 r1 f0 f1 p0 p1
          obtain ⟨r0, r1, f0, f1⟩ := HX9.out.bk.two
          have HO := Lib.hid ((HX9.out.own.setOther (p := ⟨w.heap.size, 0, none⟩) (fun j hj => by have := HX9.out.far j hj; show w.heap.size ≠ j; omega) (.int .i64 0)).setOther (p := ⟨w.heap.size, 1, none⟩) (fun j hj => by have := HX9.out.far j hj; show w.heap.size ≠ j; omega) (.int .i64 0))
          go_wp2_with fail
          exact bodyPost_ret (v := .tuple #[.slice a9 (acc ++ [endTok (q1, q2)]).length c9, .int .i64 0, .agg #[.int .i64 0, .int .i64 0]]) (by simp [results, Tryd.results5, go_sem, r0, r1]) rfl (by rw [HV.out]; exact ⟨a9, c9, rfl, HO.out, (HX9.out.bel.setCell (p := ⟨w.heap.size, 0, none⟩) (Nat.le_refl _) _).setCell (p := ⟨w.heap.size, 1, none⟩) (Nat.le_refl _) _⟩)
end Go.Proofs.YtmifjfohanegiaaDoor
