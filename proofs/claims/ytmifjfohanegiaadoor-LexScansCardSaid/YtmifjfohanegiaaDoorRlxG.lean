/-
  The reference of chapter 04: places: contract.
-/
import Derived.Test.YtmifjfohanegiaaDoorRlxI
import Derived.Test.YtmifjfohanegiaaDoorRlxM
import Derived.StillTailTactics
namespace Go.Proofs.YtmifjfohanegiaaDoor
set_option linter.unusedVariables false
open Go.RowKit Go.Shelf

def enPl (p : Int × Int) : List Value := [.int .i64 p.1, .int .i64 p.2]
theorem enPl_len (p : Int × Int) : (enPl p).length = 2 := rfl
theorem pls_ty : SlTy Tryd.prog 47 28 2 16 := SlTy.mk' (.agg #[.int .i64 0, .int .i64 0]) Tryd.underlying47 (by kernel_rfl) rfl (by decide) (by decide)
theorem pl_at {w : World} {a : Option Addr} {cap : Nat} {l : List (Int × Int)} (h : SlOf w enPl 2 a cap l) {k : Nat} (hk : k < l.length) :
    ∃ b o, a = some ⟨b, o, none⟩ ∧ b < w.heap.size ∧ w.cell? ⟨b, o + k * 2, none⟩ = some (.int .i64 l[k].1) ∧ w.cell? ⟨b, o + k * 2 + 1, none⟩ = some (.int .i64 l[k].2) := by
  obtain ⟨b, o, rfl, hb, hc⟩ := SlOf.cells h enPl_len (by decide) hk
  exact ⟨b, o, rfl, hb, hc 0 (by decide), by rw [Nat.add_assoc]; exact hc 1 (by decide)⟩
def flatU (l : List Unt) : List (Int × Int) := l.flatMap fun u => List.replicate u.wide (u.line, u.col)
def endE (l : List Unt) (p : Int × Int) : Int × Int := l.foldl (fun p u => nextP p u.rune) p
theorem places_units : ∀ (f : Nat) (s : List UInt8) (p : Int × Int), placesF f s p = flatU (unitsF f s p) ++ [endE (unitsF f s p) p]
  | 0, _, _ => rfl
  | f + 1, s, p => by
    by_cases h0 : s = []
    · subst h0; rw [places_nil, unitsF_nil]; rfl
    · have e : unitsF (f + 1) s p = ⟨p.1, p.2, (decL s).1, (decL s).2⟩ :: unitsF f (s.drop (decL s).2) (nextP p (decL s).1) := by
        show (if s = [] then [] else _) = _
        rw [if_neg h0]
      rw [places_step h0, places_units f, e]
      unfold flatU endE
      rw [List.flatMap_cons, List.foldl_cons, List.append_assoc]
theorem plc_end (xs : List Unt) : ∀ k, k ≤ xs.length → plcU xs k = endE (xs.take k) (1, 1)
  | 0, _ => rfl
  | k + 1, hk => by
    show nextP (plcU xs k) ((xs[k]?.map Unt.rune).getD 0) = _
    rw [plc_end xs k (by omega), List.take_succ_eq_append_getElem (by omega), List.getElem?_eq_getElem (by omega)]
    unfold endE
    rw [List.foldl_append]
    rfl
theorem places_all (s : List UInt8) : placesF s.length s (1, 1) = flatU (unitsL s) ++ [plcU (unitsL s) (unitsL s).length] := by
  rw [places_units, plc_end _ _ (Nat.le_refl _), List.take_length]; rfl
theorem flatU_len (l : List Unt) : (flatU l).length = (l.map Unt.wide).sum := by
  unfold flatU
  induction l with
  | nil => rfl
  | cons u l ih => rw [List.flatMap_cons, List.length_append, ih, List.length_replicate, List.map_cons, List.sum_cons]
theorem flatU_succ (l : List Unt) (k : Nat) (hk : k < l.length) : flatU (l.take (k + 1)) = flatU (l.take k) ++ List.replicate l[k].wide (l[k].line, l[k].col) := by
  unfold flatU
  rw [List.take_succ_eq_append_getElem hk, List.flatMap_append, List.flatMap_cons, List.flatMap_nil, List.append_nil]
theorem posU_le (s : List UInt8) (k : Nat) : posU (unitsL s) k ≤ s.length := by
  have h := units_all_f s.length s (1, 1) (Nat.le_refl _)
  have h2 : posU (unitsL s) (unitsL s).length = s.length := h
  rw [← h2]
  unfold posU
  rw [List.take_length]
  conv => rhs; rw [← List.take_append_drop k (unitsL s)]
  rw [List.map_append, List.sum_append]
  omega
theorem flat_le (s : List UInt8) (k : Nat) (hk : k < (unitsL s).length) : (flatU ((unitsL s).take k)).length + (unitsL s)[k].wide ≤ s.length := by
  have h := posU_le s (k + 1)
  rw [posU_succ _ _ hk] at h
  unfold posU at h
  rw [flatU_len]
  exact h

structure PlW (U : List Unt) (w : World) (A : Nat) (uv : Value) (wr : World) (v : Value) (acc : List (Int × Int)) (L C : Int) : Prop where
  own : Owns wr w.heap.size 28 2 enPl v acc
  us : Owns wr w.heap.size 69 5 enUnt uv U
  bk : Blk wr A #[.int .i64 L, .int .i64 C]
  far : ∀ j, v.ownBlock = some j → A < j
  ua : ∀ j, uv.ownBlock = some j → j < A
  bel : Below w.heap.size w wr
  sz : A < wr.heap.size
  low : w.heap.size ≤ A
theorem PlW.below {U : List Unt} {w : World} {A : Nat} {uv : Value} {wr w' : World} {v : Value} {acc : List (Int × Int)} {L C : Int} (h : PlW U w A uv wr v acc L C) (hb : Below wr.heap.size wr w') : PlW U w A uv w' v acc L C :=
  ⟨h.own.keep hb (Nat.le_refl _), h.us.keep hb (Nat.le_refl _), h.bk.keep hb (Nat.le_refl _), h.far, h.ua, bstep h.bel hb (Nat.le_refl _), Nat.lt_of_lt_of_le h.sz hb.size, h.low⟩
theorem PlW.drew {U : List Unt} {w : World} {A : Nat} {uv : Value} {wr : World} {v : Value} {acc : List (Int × Int)} {L C : Int} (h : PlW U w A uv wr v acc L C) : PlW U w A uv wr.drew v acc L C := h.below (Below.refl _ _).drew
theorem PlW.store {U : List Unt} {w : World} {A : Nat} {uv : Value} {wr : World} {v : Value} {acc : List (Int × Int)} {L C : Int} (h : PlW U w A uv wr v acc L C) (L' C' : Int) : PlW U w A uv ((wr.setCell ⟨A, 0, none⟩ (.int .i64 L')).setCell ⟨A, 1, none⟩ (.int .i64 C')) v acc L' C' :=
  ⟨(h.own.setOther (p := ⟨A, 0, none⟩) (fun i hi => by have := h.far i hi; show A ≠ i; omega) _).setOther (p := ⟨A, 1, none⟩) (fun i hi => by have := h.far i hi; show A ≠ i; omega) _,
    (h.us.setOther (p := ⟨A, 0, none⟩) (fun i hi => by have := h.ua i hi; show A ≠ i; omega) _).setOther (p := ⟨A, 1, none⟩) (fun i hi => by have := h.ua i hi; show A ≠ i; omega) _,
    (h.bk.st 0 _).st 1 _, h.far, h.ua, (h.bel.setCell (p := ⟨A, 0, none⟩) h.low _).setCell (p := ⟨A, 1, none⟩) h.low _, by simpa using h.sz, h.low⟩
theorem PlW.app {U : List Unt} {w : World} {A : Nat} {uv : Value} {wr w1 : World} {v v' : Value} {acc acc' : List (Int × Int)} {L C : Int} (h : PlW U w A uv wr v acc L C) (ho : Owns w1 w.heap.size 28 2 enPl v' acc') (hb : Below w.heap.size w w1) (hg : wr.grownBy w1 v.ownBlock) (hv : ∀ k, v'.ownBlock = some k → v.ownBlock = some k ∨ wr.heap.size ≤ k) : PlW U w A uv w1 v' acc' L C := by
  have hsz := h.sz
  exact ⟨ho, h.us.other hg (h.own.kind h.us (by decide)), h.bk.same (hg.block _ hsz (fun e => by have := h.far A e.symm; omega)), fun j hj => by rcases hv j hj with h1 | h1; exact h.far j h1; omega, h.ua, hb, Nat.lt_of_lt_of_le hsz hg.size, h.low⟩

set_option maxRecDepth 100000 in
set_option maxHeartbeats 8000000 in
theorem places4_any (s : List UInt8) (hs : s.length ≤ 1048576) (w : World) :
    Calls Tryd.prog 13 #[.string ⟨s.toArray⟩] w fun e w' => ∃ a c, e = .returned (.slice a (s.length + 1) c) ∧ Owns w' w.heap.size 28 2 enPl (.slice a (s.length + 1) c) (placesF s.length s (1, 1)) ∧ Below w.heap.size w w' := by
  have cU := fun w => units_any s (by omega) w
  have hul := unts_len s
  have HPA := Lib.hid (places_all s)
  have HPL := Lib.hid (places_len s.length s (1, 1) (Nat.le_refl _))
  have hun : (unitsL s).length ≤ 1048576 := by omega
  go_enter Tryd.func13, Tryd.ntmps13
  go_wp2_with fail
  with_reducible refine (cU _).mono ?_
  rintro e w1 ⟨a, c, rfl, ho, hb⟩
  have h0 : PlW (unitsL s) w w1.heap.size (.slice a (unitsL s).length c) (w1.alloc (.cells #[.int .i64 1, .int .i64 1] 28)) (.slice none 0 0) [] 1 1 :=
    ⟨Owns.nil _ _ _ _ _, ho.alloc _, Blk.new _ _ _, (fun j h => by cases h), (fun j hj => (ho.lt j hj).2), hb.alloc hb.size _, (by rw [World.size_alloc]; omega), hb.size⟩
  have H0 := Lib.hid h0
  clear h0 ho hb cU
  go_wp2_with fail
  generalize w1.alloc (.cells #[.int .i64 1, .int .i64 1] 28) = W at *
  go_loopw [3, 6] (fun v x wr => ∃ (j : Nat), x = .int .i64 (j : Nat) ∧ j ≤ (unitsL s).length ∧ PlW (unitsL s) w w1.heap.size (.slice a (unitsL s).length c) wr v (flatU ((unitsL s).take j)) (plcU (unitsL s) j).1 (plcU (unitsL s) j).2) (fun _ x _ => (unitsL s).length - (intOf x).toNat)
  case atStart => exact ⟨0, rfl, Nat.zero_le _, H0.out⟩
  case round =>
    clear H0
    obtain ⟨j, rfl, hj, hP⟩ := hrel
    by_cases hlt : (j : Int) < (unitsL s).length
    · have hlt' : j < (unitsL s).length := by omega
      obtain ⟨hp1, hp2⟩ := plc_at s j hlt'
      have hfl := flat_le s j hlt'
      have hfs := flatU_succ (unitsL s) j hlt'
      have hnx : plcU (unitsL s) (j + 1) = nextP (plcU (unitsL s) j) (unitsL s)[j].rune := by
        show nextP (plcU (unitsL s) j) (((unitsL s)[j]?.map Unt.rune).getD 0) = _
        rw [List.getElem?_eq_getElem hlt']; rfl
      have hbd := unit_bd s j hlt'
      obtain ⟨bu, ou, hau, hbu, e0, e1, e2, e3, e4⟩ := unt_at hP.us.sl.2 hlt'
      subst hau
      have hwide : (unitsL s)[j].wide ≤ 1048576 := by omega
      have hPL := hP.sz
      have hplc : plcU (unitsL s) j = ((unitsL s)[j].line, (unitsL s)[j].col) := by rw [hp1, hp2]
      rw [← hp1, ← hp2] at hP
      rw [hplc] at hnx
      have HNX := Lib.hid hnx
      have HFS := Lib.hid hfs
      have HP := Lib.hid hP
      clear hp1 hp2 hplc hnx hfs hP hbu
      go_wp2_with fail
      go_loopw [3, 7] (fun v x wr => ∃ (m : Nat), x = .int .i64 (m : Nat) ∧ m ≤ (unitsL s)[j].wide ∧ PlW (unitsL s) w w1.heap.size (.slice (some ⟨bu, ou, none⟩) (unitsL s).length c) wr v (flatU ((unitsL s).take j) ++ List.replicate m ((unitsL s)[j].line, (unitsL s)[j].col)) (unitsL s)[j].line (unitsL s)[j].col) (fun _ x _ => (unitsL s)[j].wide - (intOf x).toNat)
      case atStart => exact ⟨0, rfl, Nat.zero_le _, by rw [List.replicate_zero, List.append_nil]; exact HP.out⟩
      case round =>
        clear HP e0 e1 e2 e3 e4 hPL
        obtain ⟨m, rfl, hm, hP⟩ := hrel
        obtain ⟨bu', ou', hau, hbu, e0, e1, e2, e3, e4⟩ := unt_at hP.us.sl.2 hlt'
        cases hau
        have HP := Lib.hid hP
        by_cases hmw : (m : Int) < (unitsL s)[j].wide
        · have hbound : ((flatU ((unitsL s).take j) ++ List.replicate m ((unitsL s)[j].line, (unitsL s)[j].col)).length + 1) * 16 ≤ 140737488355328 := by
            rw [List.length_append, List.length_replicate]; omega
          have HBD := Lib.hid hbound
          have HRS := Lib.hid (show flatU ((unitsL s).take j) ++ List.replicate (m + 1) ((unitsL s)[j].line, (unitsL s)[j].col) = (flatU ((unitsL s).take j) ++ List.replicate m ((unitsL s)[j].line, (unitsL s)[j].col)) ++ [((unitsL s)[j].line, (unitsL s)[j].col)] by
            rw [List.replicate_succ', List.append_assoc])
          clear hP hbound HNX HFS
          generalize (unitsL s)[j].line = L at *
          generalize (unitsL s)[j].col = C at *
          generalize (unitsL s)[j].wide = N at *
          generalize flatU ((unitsL s).take j) ++ List.replicate m (L, C) = acc at *
          go_wp2_with (at_builtin; go_loud (refine wpList_append_elem3 pls_ty acc (L, C) HP.out.own HP.out.bel (Nat.le_refl _) HBD.out ?_ (hone := by simp [enPl, Value.oneCell'])))
          intro v' w9 hown hbel hg hv
          have HX9 := Lib.hid (HP.out.app hown hbel hg hv)
          clear hown hbel hg hv
          go_wp2_with fail
          go_roundw
          case rel => exact ⟨m + 1, by first | rfl | go_num, by omega, by rw [HRS.out]; exact HX9.out⟩
          case measure => (simp [intOf] <;> omega)
        · obtain rfl : m = (unitsL s)[j].wide := by omega
          rw [← HFS.out] at HP
          have hwC : IntKind.i64.wrap ((unitsL s)[j].col + 1) = (unitsL s)[j].col + 1 := by
            unfold IntKind.wrap; simp [IntKind.bits, IntKind.signed]; omega
          have hwL : IntKind.i64.wrap ((unitsL s)[j].line + 1) = (unitsL s)[j].line + 1 := by
            unfold IntKind.wrap; simp [IntKind.bits, IntKind.signed]; omega
          have hnx := HNX.out
          unfold nextP at hnx
          clear hP HNX HFS hbd
          generalize (unitsL s)[j].line = L at *
          generalize (unitsL s)[j].col = C at *
          have HST := Lib.hid (HP.out.drew.store L (C + 1))
          obtain ⟨r0, r1, f0, f1⟩ := HP.out.drew.bk.two
          obtain ⟨t0, t1, g0, g1⟩ := HST.out.bk.two
          have hal : w1.heap.size ≠ bu := by have := HP.out.ua bu rfl; omega
          have hal2 : bu ≠ w1.heap.size := fun e => hal e.symm
          have d0 : wr.drew.cell? ⟨bu, ou + j * 5, none⟩ = _ := e0
          have d2 : wr.drew.cell? ⟨bu, ou + j * 5 + 2, none⟩ = _ := e2
          by_cases hR : (unitsL s)[j].rune = 10
          · rw [if_pos hR] at hnx
            have gR : (((unitsL s)[j].rune : Int) == 10) = true := by rw [hR]; rfl
            have HS2 := Lib.hid (HST.out.store (L + 1) 1)
            have HNX := Lib.hid hnx
            clear hR hnx
            generalize (unitsL s)[j].rune = R at *
            go_wp2_with fail
            go_still_tail 14, (by kernel_rfl)
            change wpList _ _ _ _ _ (World.drew _)
            generalize wr.drew = wd at *
            go_wp2_with fail
            go_roundw
            case rel => exact ⟨j + 1, by first | rfl | go_num, by omega, by rw [HNX.out]; exact HS2.out⟩
            case measure => (simp [intOf] <;> omega)
          · rw [if_neg hR] at hnx
            have gR : (((unitsL s)[j].rune : Int) == 10) = false := by rw [beq_eq_false_iff_ne]; omega
            have HNX := Lib.hid hnx
            clear hR hnx
            generalize (unitsL s)[j].rune = R at *
            go_wp2_with fail
            go_still_tail 14, (by kernel_rfl)
            change wpList _ _ _ _ _ (World.drew _)
            generalize wr.drew = wd at *
            go_wp2_with fail
            go_roundw
            case rel => exact ⟨j + 1, by first | rfl | go_num, by omega, by rw [HNX.out]; exact HST.out⟩
            case measure => (simp [intOf] <;> omega)
    · obtain rfl : j = (unitsL s).length := by omega
      rw [List.take_length] at hP
      obtain ⟨r0, r1, f0, f1⟩ := hP.bk.two
      have hl := HPL.out
      have hpa := HPA.out
      have HFL := Lib.hid (show ((flatU (unitsL s)).length + 1) * 16 ≤ 140737488355328 by
        have h3 := congrArg List.length hpa
        rw [hl, List.length_append, List.length_singleton] at h3
        omega)
      have HX := Lib.hid hP
      have HLL := Lib.hid (show (flatU (unitsL s) ++ [((plcU (unitsL s) (unitsL s).length).1, (plcU (unitsL s) (unitsL s).length).2)]).length = s.length + 1 by
        have h3 := congrArg List.length hpa
        rw [hl] at h3
        exact h3.symm)
      have HP3 := Lib.hid (show placesF s.length s (1, 1) = flatU (unitsL s) ++ [((plcU (unitsL s) (unitsL s).length).1, (plcU (unitsL s) (unitsL s).length).2)] from hpa)
      clear hP hl hpa HPA HPL
      generalize (plcU (unitsL s) (unitsL s).length).1 = L at *
      generalize (plcU (unitsL s) (unitsL s).length).2 = C at *
      go_wp2_with (at_builtin; go_loud (refine wpList_append_elem3 pls_ty (flatU (unitsL s)) (L, C) HX.out.own HX.out.bel (Nat.le_refl _) HFL.out ?_ (hone := by simp [enPl, Value.oneCell'])))
      intro v' w9 hown hbel hg hv
      obtain ⟨a9, c9, rfl, _⟩ := hown.shape
      rw [HLL.out] at hown
      have HO := Lib.hid hown
      have HB := Lib.hid hbel
      have hlen2 : (flatU (unitsL s)).length = s.length := by have := HLL.out; rw [List.length_append, List.length_singleton] at this; omega
      have HL2 := Lib.hid hlen2
      clear hlen2
      clear hown hbel hg hv r0 r1 f0 f1
      go_wp2_with fail
      exact bodyPost_ret (v := .slice a9 (s.length + 1) c9) (by simp [results, Tryd.results13, go_sem, HL2.out]) rfl ⟨a9, c9, rfl, by rw [HP3.out]; exact HO.out, HB.out⟩
end Go.Proofs.YtmifjfohanegiaaDoor
