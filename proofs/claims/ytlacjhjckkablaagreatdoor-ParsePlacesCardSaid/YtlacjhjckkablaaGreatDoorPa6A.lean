/-
  busbarlaw06's parts: the places of a database's parts, in order, and the words that stand there.
-/
import Derived.Test.YtlacjhjckkablaaGreatDoorNodK
import Derived.Test.YtlacjhjckkablaaGreatDoorLexB
import Derived.Test.YtlacjhjckkablaaGreatDoorCopDX
import Derived.Test.YtlacjhjckkablaaGreatDoorBaseD
import Derived.Test.YtlacjhjckkablaaGreatDoorSamA
import Derived.Test.YtlacjhjckkablaaGreatDoorParX
import Derived.Test.YtlacjhjckkablaaGreatDoorBaseC
import Derived.Test.YtlacjhjckkablaaGreatDoorHeldP
import Derived.Deep.Cut
import Derived.Deep.DeepCutAuto

namespace Go.Proofs.YtlacjhjckkablaaGreatDoor
set_option linter.unusedVariables false
open Go.RowKit Go.Shelf

theorem Bnd.after {s : List UInt8} {p q : Int × Int} {k : Nat} (h : Bnd s p k q) : ∀ {n : Nat} {r : Int × Int}, Bnd s p n r → k < n → k + (decL (s.drop k)).2 ≤ n ∧ s.drop k ≠ [] := by
  induction h with
  | zero s p =>
    intro n r h2 hk
    cases h2 with
    | zero => omega
    | step _ _ m _ hne h3 => exact ⟨by rw [List.drop_zero]; omega, by rw [List.drop_zero]; exact hne⟩
  | step s p m q hne h ih =>
    intro n r h2 hk
    cases h2 with
    | zero => omega
    | step _ _ m2 _ hne2 h3 =>
      have := ih h3 (by omega)
      rw [List.drop_drop] at this
      exact ⟨by omega, this.2⟩
theorem Bnd.more {s : List UInt8} {p q : Int × Int} {k : Nat} (h : Bnd s p k q) (hne : s.drop k ≠ []) : Bnd s p (k + (decL (s.drop k)).2) (nextP q (decL (s.drop k)).1) := by
  have h1 := Bnd.step (s.drop k) q 0 _ hne (.zero _ _)
  exact h.trans h1

set_option maxRecDepth 100000 in
set_option maxHeartbeats 4000000 in
theorem byteAt6_any (s : List UInt8) (hs : s.length ≤ 1000000000) (n : Nat) (hn : n < s.length) (L C : Int) (hb : Bnd s (1, 1) n (L, C)) (w : World) :
    Calls Tryz.prog 15 #[.string ⟨s.toArray⟩, .agg #[.int .i64 L, .int .i64 C]] w fun e w' => e = .returned (.int .i64 (n : Nat)) ∧ Below w.heap.size w w' := by
  obtain ⟨ta, hsz, hbw⟩ := box1 w #[.int .i64 L, .int .i64 C] 28
  have TA0 := Lib.hid ta
  have HB0 := Lib.hid hbw
  have HBN := Lib.hid hb
  have hi0 := World.iter_heap (w.alloc (.cells #[.int .i64 L, .int .i64 C] 28)) ⟨s.toArray⟩ 0
  have hbi : Below (w.alloc (.cells #[.int .i64 L, .int .i64 C] 28)).heap.size (w.alloc (.cells #[.int .i64 L, .int .i64 C] 28)) ((w.alloc (.cells #[.int .i64 L, .int .i64 C] 28)).iter ⟨s.toArray⟩ 0) := (Below.refl _ _).alloc (Nat.le_refl _) _
  rw [hsz] at hi0 hbi
  clear ta hbw hb
  go_enter Tryz.func15, Tryz.ntmps15
  go_wp2_with fail
  have TA := Lib.hid (TA0.out.keep (hbi.mono (Nat.le_of_eq hsz)) (Nat.le_refl _))
  have HBV := Lib.hid (HB0.out.trans (hbi.mono (Nat.le_succ _)))
  clear hsz HB0 TA0 hbi
  generalize (w.alloc (.cells #[.int .i64 L, .int .i64 C] 28)).iter ⟨s.toArray⟩ 0 = V at *
  go_loopw [5, 6] (fun x y wr => ∃ (k : Nat) (q0 q1 : Int), k ≤ n ∧ x = .int .i64 q0 ∧ y = .int .i64 q1 ∧ 0 < q0 ∧ q0 ≤ 1 + k ∧ 0 < q1 ∧ q1 ≤ 1 + k ∧ Bnd s (1, 1) k (q0, q1) ∧ wr.heap[w.heap.size + 1]? = some (.stringIter ⟨s.toArray⟩ k) ∧ Blk wr w.heap.size #[.int .i64 L, .int .i64 C] ∧ Below w.heap.size w wr) (fun _ _ wr => s.length - wr.iterPos (w.heap.size + 1))
  case atStart => exact ⟨0, 1, 1, Nat.zero_le _, rfl, rfl, by decide, by decide, by decide, by decide, .zero _ _, hi0, TA.out, HBV.out⟩
  case round =>
    clear hi0 TA HBV
    obtain ⟨k, q0, q1, hk, rfl, rfl, hq0, hq1, hq2, hq3, hbd, hit, hbk, hbw⟩ := hrel
    have hmz : wr.iterPos (w.heap.size + 1) = k := iterPos_of hit
    have hlt : k < s.length := by omega
    have hps : k < (⟨s.toArray⟩ : ByteArray).size := hlt
    have hnx : ∀ ty, (Instr.next (.pointer (some ⟨w.heap.size + 1, 0, none⟩)) true ty).run Tryz.prog wr = _ := fun ty => Lib.run_next_any_at wr (w.heap.size + 1) ⟨s.toArray⟩ k ty hit hps
    rw [dec_drop] at hnx
    have hbw2 := Lib.below_iterAt hbw (k := w.heap.size + 1) (Nat.le_succ _) ⟨s.toArray⟩ (k + (decL (s.drop k)).2)
    have hbk2 : Blk (wr.iterAt (w.heap.size + 1) ⟨s.toArray⟩ (k + (decL (s.drop k)).2)) w.heap.size #[.int .i64 L, .int .i64 C] := by
      obtain ⟨T, hT⟩ := hbk
      exact ⟨T, by rw [Lib.iterAt_other _ _ _ _ _ (by omega)]; exact hT⟩
    have hit2 : (wr.iterAt (w.heap.size + 1) ⟨s.toArray⟩ (k + (decL (s.drop k)).2)).heap[w.heap.size + 1]? = some (.stringIter ⟨s.toArray⟩ (k + (decL (s.drop k)).2)) := Lib.iterAt_heap wr (w.heap.size + 1) ⟨s.toArray⟩ k _ hit
    obtain ⟨hdw1, hdw2, -⟩ := dec_w (s.drop k)
    have hdm := dec_max (s.drop k)
    obtain ⟨c0, c1, -, -⟩ := hbk2.two
    by_cases hkn : k = n
    · have hq := HBN.out
      rw [← hkn] at hq
      have e : ((q0, q1) : Int × Int) = (L, C) := by
        have h1 := hbd.place _ (Nat.le_refl _)
        have h2 := hq.place _ (Nat.le_refl _)
        rw [h1] at h2
        exact Option.some.inj h2
      injection e with e1 e2
      have HKN := Lib.hid hkn
      clear hq hkn hbk hbk2 hit hit2 hbw hmz hbd
      subst e1
      subst e2
      have g1 : (q0 == q0) = true := by simp
      have g2 : (q1 == q1) = true := by simp
      generalize (decL (s.drop k)).1 = R at *
      generalize wr.iterAt (w.heap.size + 1) ⟨s.toArray⟩ (k + (decL (s.drop k)).2) = wv at *
      go_wp2_with fail
      go_ret
      exact ⟨by rw [HKN.out] <;> rfl, hbw2⟩
    · have hne : ¬ (q0 = L ∧ q1 = C) := by
        rintro ⟨rfl, rfl⟩
        exact hkn (hbd.uniq HBN.out)
      obtain ⟨haf, hnn⟩ := hbd.after HBN.out (by omega)
      have HST := Lib.hid (hbd.more hnn)
      have hw1 : IntKind.i64.wrap (q1 + 1) = q1 + 1 := IntWalk.i64_in _ (by omega)
      have hw0 : IntKind.i64.wrap (q0 + 1) = q0 + 1 := IntWalk.i64_in _ (by omega)
      have HI2 := Lib.hid hit2
      have HK2 := Lib.hid hbk2
      have HB2 := Lib.hid hbw2
      clear hbk hbk2 hit hit2 hbw hbd hnn hkn hbw2
      have hmz2 : (wr.iterAt (w.heap.size + 1) ⟨s.toArray⟩ (k + (decL (s.drop k)).2)).iterPos (w.heap.size + 1) = k + (decL (s.drop k)).2 := iterPos_of HI2.out
      generalize (decL (s.drop k)).1 = R at *
      generalize (decL (s.drop k)).2 = N at *
      generalize wr.iterAt (w.heap.size + 1) ⟨s.toArray⟩ (k + N) = wv at *
      cases g10 : ((R : Int) == 10)
      · have hnx2 : nextP (q0, q1) R = (q0, q1 + 1) := by
          unfold nextP
          rw [beq_eq_false_iff_ne] at g10
          rw [if_neg (by omega)]
        have HNX := Lib.hid hnx2
        clear hnx2
        by_cases h1 : q0 = L
        · have g1 : (q0 == L) = true := by simp [h1]
          have g2 : (q1 == C) = false := by rw [beq_eq_false_iff_ne]; exact fun h2 => hne ⟨h1, h2⟩
          clear hne h1
          go_wp2_with fail
          go_roundw
          case rel => exact ⟨k + N, q0, q1 + 1, haf, rfl, by first | rfl | go_num, hq0, by omega, by omega, by omega, by have := HST.out; rw [HNX.out] at this; exact this, HI2.out, HK2.out, HB2.out⟩
          case measure => rw [hmz2, hmz]; omega
        · have g1 : (q0 == L) = false := by rw [beq_eq_false_iff_ne]; exact h1
          clear hne h1
          go_wp2_with fail
          go_roundw
          case rel => exact ⟨k + N, q0, q1 + 1, haf, rfl, by first | rfl | go_num, hq0, by omega, by omega, by omega, by have := HST.out; rw [HNX.out] at this; exact this, HI2.out, HK2.out, HB2.out⟩
          case measure => rw [hmz2, hmz]; omega
      · have hnx2 : nextP (q0, q1) R = (q0 + 1, 1) := by
          unfold nextP
          rw [beq_iff_eq] at g10
          rw [if_pos (by omega)]
        have HNX := Lib.hid hnx2
        clear hnx2
        by_cases h1 : q0 = L
        · have g1 : (q0 == L) = true := by simp [h1]
          have g2 : (q1 == C) = false := by rw [beq_eq_false_iff_ne]; exact fun h2 => hne ⟨h1, h2⟩
          clear hne h1
          go_wp2_with fail
          go_roundw
          case rel => exact ⟨k + N, q0 + 1, 1, haf, by first | rfl | go_num, rfl, by omega, by omega, by decide, by omega, by have := HST.out; rw [HNX.out] at this; exact this, HI2.out, HK2.out, HB2.out⟩
          case measure => rw [hmz2, hmz]; omega
        · have g1 : (q0 == L) = false := by rw [beq_eq_false_iff_ne]; exact h1
          clear hne h1
          go_wp2_with fail
          go_roundw
          case rel => exact ⟨k + N, q0 + 1, 1, haf, by first | rfl | go_num, rfl, by omega, by omega, by decide, by omega, by have := HST.out; rw [HNX.out] at this; exact this, HI2.out, HK2.out, HB2.out⟩
          case measure => rw [hmz2, hmz]; omega
theorem ext_mid6 (L : List UInt8) (i n : Nat) : (⟨L.toArray⟩ : ByteArray).extract i (i + n) = ⟨((L.drop i).take n).toArray⟩ := by
  have h : ∀ (a b : ByteArray), a.data.toList = b.data.toList → a = b := fun a b e => by cases a; cases b; simp at e; rw [e]
  apply h
  rw [Go.Lib.extract_data]
  show (L.drop i).take (i + n - i) = _
  rw [Nat.add_sub_cancel_left]
set_option maxRecDepth 100000 in
set_option maxHeartbeats 4000000 in
theorem stands6_any (s t : List UInt8) (hs : s.length ≤ 1000000000) (k : Nat) (hk : k + t.length ≤ s.length) (ht : (s.drop k).take t.length = t) (w : World) :
    Calls Tryz.prog 16 #[.string ⟨s.toArray⟩, .int .i64 (k : Nat), .string ⟨t.toArray⟩] w fun e w' => e = .returned (.bool true) ∧ w' = w := by
  have hex := ext_mid6 s k t.length
  rw [ht] at hex
  have hwk : IntKind.i64.wrap ((k : Int) + (t.length : Int)) = (k : Int) + (t.length : Int) := IntWalk.i64_in _ (by omega)
  have hle : (k : Int) + (t.length : Int) ≤ (s.length : Int) := by omega
  have hnn : 0 ≤ (k : Int) + (t.length : Int) := by omega
  have htn : ((k : Int) + (t.length : Int)).toNat = k + t.length := by omega
  clear ht
  go_enter Tryz.func16, Tryz.ntmps16
  go_wp2_with fail
  go_ret
  exact ⟨rfl, rfl⟩
end Go.Proofs.YtlacjhjckkablaaGreatDoor

namespace Go.Proofs.YtlacjhjckkablaaGreatDoor
set_option linter.unusedVariables false
open Go.RowKit Go.Shelf

def plV (m : Mark) : List Value := [.int .i64 m.2.1, .int .i64 m.2.2]
def wdV (m : Mark) : List Value := [.string ⟨m.1.toArray⟩]
theorem places_ty6 : SlTy Tryz.prog 66 28 2 16 := SlTy.mk' (.agg #[.int .i64 0, .int .i64 0]) Tryz.underlying66 (by kernel_rfl) rfl (by decide) (by decide)
theorem texts_ty6 : SlTy Tryz.prog 31 9 1 16 := SlTy.mk' (.string ⟨#[]⟩) Tryz.underlying31 (by kernel_rfl) rfl (by decide) (by decide)
/-- the two lists that are made -/
structure Two6 (w0 w : World) (l u : Value) (M : List Mark) : Prop where
  pl : Owns w w0.heap.size 28 2 plV l M
  wd : Owns w w0.heap.size 9 1 wdV u M
  bel : Below w0.heap.size w0 w
theorem Two6.nil (w : World) : Two6 w w (.slice none 0 0) (.slice none 0 0) [] := ⟨Owns.nil _ _ _ _ _, Owns.nil _ _ _ _ _, Below.refl _ _⟩

set_option maxRecDepth 100000 in
set_option maxHeartbeats 8000000 in
theorem parts6_any (d : DbD) (h1 : d.msgs.length ≤ 1000000) (h2 : d.tabs.length ≤ 1000000) (C : Array Value) (w : World) (hC : rdDb w d C.toList) :
    Calls Tryz.prog 14 #[.agg C] w fun e w' => ∃ l u, e = .returned (.tuple #[l, u]) ∧ Two6 w w' l u ((nodsD d).map headM) := by
  obtain ⟨pa, pn, pb, pm, pc, pt, eC, hN, hM, hT⟩ := hC
  have hc := Array.toList_inj.1 eC
  clear eC
  have hbx := (Below.refl w.heap.size w).alloc (Nat.le_refl _) (.cells C 37)
  have hbk := Blk.new w C 37
  have HM := Lib.hid (hM.keep last_rdMsg hbx)
  have HT := Lib.hid (hT.keep last_rdTab hbx)
  have HB := Lib.hid hbx
  have hkb : w.heap.size < (w.alloc (.cells C 37)).heap.size := by simp
  have c0 := hbk.cell 0 (.bool d.has) (by rw [hc]; rfl)
  have c1 := hbk.cell 1 (.int .i64 d.ver.line) (by rw [hc]; rfl)
  have c2 := hbk.cell 2 (.int .i64 d.ver.col) (by rw [hc]; rfl)
  have c4 := hbk.cell 4 (.int .i64 d.sta.line) (by rw [hc]; rfl)
  have c5 := hbk.cell 5 (.int .i64 d.sta.col) (by rw [hc]; rfl)
  have hc7 : C[7]? = some (.slice pb d.msgs.length pm) := by rw [hc]; rfl
  have hc8 : C[8]? = some (.slice pc d.tabs.length pt) := by rw [hc]; rfl
  have HK := Lib.hid hbk
  clear hN hM hT hbx hbk hc
  have hH : ∃ H0 : List Mark, H0 = (if d.has then [([86, 69, 82, 83, 73, 79, 78], d.ver.line, d.ver.col)] else []) ∧ (nodsD d).map headM = H0 ++ (([66, 85, 95], d.sta.line, d.sta.col) :: (d.msgs.map (fun m => (([66, 79, 95], m.line, m.col) : Mark)) ++ d.tabs.map (fun t => (([86, 65, 76, 95], t.line, t.col) : Mark)))) := by
    refine ⟨_, rfl, ?_⟩
    unfold nodsD
    cases d.has <;> simp [headM, Function.comp_def]
  obtain ⟨H0, hH0, hHd⟩ := hH
  have HHD := Lib.hid hHd
  clear hHd
  obtain ⟨hv, hhv⟩ : ∃ hv, d.has = hv := ⟨_, rfl⟩
  rw [hhv] at c0 hH0
  clear hhv
  go_enter Tryz.func14, Tryz.ntmps14
  go_upto_region 3 with fail
  generalize w.alloc (.cells C 37) = W at *
  generalize hkq : w.heap.size = kb at *
  have HKQ := Lib.hid hkq
  clear hkq
  have HT0 := Lib.hid (Two6.nil W)
  go_upto_if 9 with (fail)
  go_cut [4, 5] (fun l u ws => Two6 W ws l u H0)
  case first =>
    have ho := HT0.out.pl
    have hw := HT0.out.wd
    cases hv
    · have HH := Lib.hid (show H0 = [] by rw [hH0]; rfl)
      clear hH0 ho hw
      go_wp2_with fail
      go_meet
      case rel => rw [HH.out]; exact HT0.out
    · have HH := Lib.hid (show H0 = [([86, 69, 82, 83, 73, 79, 78], d.ver.line, d.ver.col)] by rw [hH0]; rfl)
      clear hH0
      go_upto_region 5 with (at_builtin; go_loud (refine wpList_append_elem3 (en := plV) places_ty6 [] ([86, 69, 82, 83, 73, 79, 78], d.ver.line, d.ver.col) ho (Below.refl W.heap.size W) (Nat.le_refl _) (by simp) ?_ (hone := by simp [plV, Value.oneCell'])))
      rintro l1 W1 ho1 hb1 hg1 -
      have hw1 := hw.grown2 ho (by decide) hg1
      have hs1 := hb1.size
      have HO1 := Lib.hid ho1
      have HB1 := Lib.hid hb1
      obtain ⟨x1, y1, e1, -⟩ := ho1.shape
      subst e1
      clear ho hw hg1 ho1 hb1
      go_wp2_with (at_builtin; go_loud (refine wpList_append_elem3 (en := wdV) texts_ty6 [] ([86, 69, 82, 83, 73, 79, 78], d.ver.line, d.ver.col) hw1 (Below.refl W.heap.size W1) hs1 (by simp) ?_ (hone := by simp [wdV, Value.oneCell'])))
      rintro u1 W2 hu1 hb2 hg2 -
      have HT2 := Lib.hid (show Two6 W W2 _ u1 H0 by rw [HH.out]; exact ⟨HO1.out.grown2 hw1 (by decide) hg2, hu1, HB1.out.trans hb2⟩)
      clear hu1 hb2 hg2 hw1
      go_wp2_with fail
      go_meet
      case rel => exact HT2.out
  case rest =>
    obtain ⟨Wr, hWr⟩ : ∃ x, x = wc := ⟨_, rfl⟩
    subst hWr
    have HTR := Lib.hid hcut
    have hs0 := hcut.bel.size
    have ho := hcut.pl
    have hw := hcut.wd
    have f4 := cell_keep' c4 hcut.bel
    have f5 := cell_keep' c5 hcut.bel
    obtain ⟨x0, y0, e0, -⟩ := ho.shape
    subst e0
    obtain ⟨x1, y1, e1, -⟩ := hw.shape
    subst e1
    have hl0 : H0.length ≤ 1 := by rw [hH0]; cases hv <;> simp
    clear hcut c0 c1 c2 c4 c5 hH0
    go_upto_region 7 with (at_builtin; go_loud (refine wpList_append_elem3 (en := plV) places_ty6 H0 ([66, 85, 95], d.sta.line, d.sta.col) ho (Below.refl W.heap.size Wr) hs0 (by omega) ?_ (hone := by simp [plV, Value.oneCell'])))
    rintro l1 W1 ho1 hb1 hg1 -
    have hw1 := hw.grown2 ho (by decide) hg1
    have hs1 := hb1.size
    have HO1 := Lib.hid ho1
    have HB1 := Lib.hid hb1
    obtain ⟨x2, y2, e2, -⟩ := ho1.shape
    rw [List.length_append, List.length_cons, List.length_nil, Nat.zero_add] at e2
    subst e2
    clear ho hw hg1 ho1 hb1 f4 f5
    go_upto_region 8 with (at_builtin; go_loud (refine wpList_append_elem3 (en := wdV) texts_ty6 H0 ([66, 85, 95], d.sta.line, d.sta.col) hw1 (Below.refl W.heap.size W1) (by omega) (by omega) ?_ (hone := by simp [wdV, Value.oneCell'])))
    rintro u1 W2 hu1 hb2 hg2 -
    have HA := Lib.hid (show Two6 W W2 _ u1 (H0 ++ [([66, 85, 95], d.sta.line, d.sta.col)]) from ⟨HO1.out.grown2 hw1 (by decide) hg2, hu1, (HTR.out.bel.trans HB1.out).trans hb2⟩)
    clear hu1 hb2 hg2 hw1 hs1 hs0 HTR HO1 HB1
    obtain ⟨H1, hH1⟩ : ∃ H1, H1 = H0 ++ [(([66, 85, 95], d.sta.line, d.sta.col) : Mark)] := ⟨_, rfl⟩
    rw [← hH1] at HA
    have hl1 : H1.length ≤ 2 := by rw [hH1, List.length_append]; simp; omega
    have HH1 := Lib.hid hH1
    clear hH1 hl0
    obtain ⟨mb, mo, me⟩ : ∃ b o, 0 < d.msgs.length → pb = some ⟨b, o, none⟩ := by
      by_cases h0 : 0 < d.msgs.length
      · obtain ⟨b, o, e, -⟩ := HM.out.at (by decide) h0
        exact ⟨b, o, fun _ => e⟩
      · exact ⟨0, 0, fun h => absurd h h0⟩
    have f7 := HK.out.cell 7 _ hc7
    go_upto_region 9 with fail
    go_loopw [4, 5, 6] (fun l u iv wr => ∃ i : Nat, i ≤ d.msgs.length ∧ iv = .int .i64 (i : Nat) ∧ Two6 W wr l u (H1 ++ (d.msgs.take i).map (fun m => (([66, 79, 95], m.line, m.col) : Mark)))) (fun _ _ iv _ => d.msgs.length - (intOf iv).toNat)
    case atStart => exact ⟨0, Nat.zero_le _, rfl, by rw [List.take_zero, List.map_nil, List.append_nil]; exact HA.out⟩
    case round =>
      clear HA
      obtain ⟨i, hi, rfl, ht⟩ := hrel
      have fr := cell_keep' f7 ht.bel
      have hs0 := ht.bel.size
      by_cases hlt : (i : Int) < d.msgs.length
      · have hlt' : i < d.msgs.length := by omega
        obtain ⟨b', o', e', -, cs, hcl, hrd, hrg⟩ := (HM.out.keep last_rdMsg ht.bel).at (by decide) hlt'
        have hpe := me (by omega)
        rw [hpe] at e'
        cases e'
        rw [hpe] at fr
        obtain ⟨xa, xc, ecs, -⟩ := hrd
        have q0 := hrg 0 (.int .i64 d.msgs[i].line) (by rw [ecs]; rfl)
        have q1 := hrg 1 (.int .i64 d.msgs[i].col) (by rw [ecs]; rfl)
        rw [Nat.add_zero] at q0
        have HTK := Lib.hid (show (H1 ++ (d.msgs.take i).map (fun m => (([66, 79, 95], m.line, m.col) : Mark))) ++ [(fun m => (([66, 79, 95], m.line, m.col) : Mark)) d.msgs[i]] = H1 ++ (d.msgs.take (i + 1)).map (fun m => (([66, 79, 95], m.line, m.col) : Mark)) by rw [← List.take_append_getElem hlt', List.map_append, List.append_assoc]; rfl)
        have hll : (H1 ++ (d.msgs.take i).map (fun m => (([66, 79, 95], m.line, m.col) : Mark))).length ≤ 1000002 := by rw [List.length_append, List.length_map, List.length_take]; omega
        have HTT := Lib.hid ht
        have HYE := Lib.hid (show (fun m => (([66, 79, 95], m.line, m.col) : Mark)) d.msgs[i] = ([66, 79, 95], d.msgs[i].line, d.msgs[i].col) from rfl)
        have ho := ht.pl
        have hw := ht.wd
        obtain ⟨x0, y0, e0, -⟩ := ho.shape
        subst e0
        obtain ⟨x1, y1, e1, -⟩ := hw.shape
        subst e1
        generalize d.msgs[i].line = Ln at *
        generalize d.msgs[i].col = Cn at *
        generalize H1 ++ (d.msgs.take i).map (fun m => (([66, 79, 95], m.line, m.col) : Mark)) = HH at *
        clear hrg ecs hpe ht hi
        go_upto_region 12 with (at_builtin; go_loud (refine wpList_append_elem3 (en := plV) places_ty6 HH ([66, 79, 95], Ln, Cn) ho (Below.refl W.heap.size wr) hs0 (by omega) ?_ (hone := by simp [plV, Value.oneCell'])))
        rintro l1 W1 ho1 hb1 hg1 -
        have hw1 := hw.grown2 ho (by decide) hg1
        have hs1 := hb1.size
        have HO1 := Lib.hid ho1
        have HB1 := Lib.hid hb1
        obtain ⟨x2, y2, e2, -⟩ := ho1.shape
        rw [List.length_append, List.length_cons, List.length_nil, Nat.zero_add] at e2
        subst e2
        clear ho hw hg1 ho1 hb1 q0 q1 fr
        go_wp2_with (at_builtin; go_loud (refine wpList_append_elem3 (en := wdV) texts_ty6 HH ([66, 79, 95], Ln, Cn) hw1 (Below.refl W.heap.size W1) (by omega) (by omega) ?_ (hone := by simp [wdV, Value.oneCell'])))
        rintro u1 W3 hu1 hb2 hg2 -
        have HN := Lib.hid (show Two6 W W3 _ u1 (H1 ++ (d.msgs.take (i + 1)).map (fun m => (([66, 79, 95], m.line, m.col) : Mark))) by rw [← HTK.out, HYE.out]; exact ⟨HO1.out.grown2 hw1 (by decide) hg2, hu1, (HTT.out.bel.trans HB1.out).trans hb2⟩)
        clear hu1 hb2 hg2 hw1 hs1 hs0 HTT HO1 HB1
        go_wp2_with fail
        go_roundw
        case rel => exact ⟨i + 1, by omega, by go_num, HN.out⟩
        case measure => simp [intOf]; omega
      · have hii : i = d.msgs.length := by omega
        have HA2 := Lib.hid (show Two6 W wr _ _ (H1 ++ d.msgs.map (fun m => (([66, 79, 95], m.line, m.col) : Mark))) by rw [hii, List.take_length] at ht; exact ht)
        have hbw := ht.bel
        clear ht hii hi hs0 f7
        obtain ⟨H2, hH2⟩ : ∃ H2, H2 = H1 ++ d.msgs.map (fun m => (([66, 79, 95], m.line, m.col) : Mark)) := ⟨_, rfl⟩
        rw [← hH2] at HA2
        have hl2 : H2.length ≤ 1000002 := by rw [hH2, List.length_append, List.length_map]; omega
        have HH2 := Lib.hid hH2
        clear hH2
        have HT1 := HT
        obtain ⟨tb, tof, te⟩ : ∃ b o, 0 < d.tabs.length → pc = some ⟨b, o, none⟩ := by
          by_cases h0 : 0 < d.tabs.length
          · obtain ⟨b, o, e, -⟩ := HT1.out.at (by decide) h0
            exact ⟨b, o, fun _ => e⟩
          · exact ⟨0, 0, fun h => absurd h h0⟩
        have f8 := HK.out.cell 8 _ hc8
        go_wp2_with fail
        clear fr
        go_loopw [4, 5, 7] (fun l u iv wr => ∃ i : Nat, i ≤ d.tabs.length ∧ iv = .int .i64 (i : Nat) ∧ Two6 W wr l u (H2 ++ (d.tabs.take i).map (fun t => (([86, 65, 76, 95], t.line, t.col) : Mark)))) (fun _ _ iv _ => d.tabs.length - (intOf iv).toNat)
        case atStart => exact ⟨0, Nat.zero_le _, rfl, by rw [List.take_zero, List.map_nil, List.append_nil]; exact HA2.out⟩
        case round =>
          clear HA2
          obtain ⟨i, hi, rfl, ht⟩ := hrel
          have fr := cell_keep' f8 ht.bel
          have hs0 := ht.bel.size
          by_cases hlt : (i : Int) < d.tabs.length
          · have hlt' : i < d.tabs.length := by omega
            obtain ⟨b', o', e', -, cs, hcl, hrd, hrg⟩ := (HT1.out.keep last_rdTab ht.bel).at (by decide) hlt'
            have hpe := te (by omega)
            rw [hpe] at e'
            cases e'
            rw [hpe] at fr
            obtain ⟨xa, xc, ecs, -⟩ := hrd
            have q0 := hrg 0 (.int .i64 d.tabs[i].line) (by rw [ecs]; rfl)
            have q1 := hrg 1 (.int .i64 d.tabs[i].col) (by rw [ecs]; rfl)
            rw [Nat.add_zero] at q0
            have HTK := Lib.hid (show (H2 ++ (d.tabs.take i).map (fun t => (([86, 65, 76, 95], t.line, t.col) : Mark))) ++ [(fun t => (([86, 65, 76, 95], t.line, t.col) : Mark)) d.tabs[i]] = H2 ++ (d.tabs.take (i + 1)).map (fun t => (([86, 65, 76, 95], t.line, t.col) : Mark)) by rw [← List.take_append_getElem hlt', List.map_append, List.append_assoc]; rfl)
            have hll : (H2 ++ (d.tabs.take i).map (fun t => (([86, 65, 76, 95], t.line, t.col) : Mark))).length ≤ 2000002 := by rw [List.length_append, List.length_map, List.length_take]; omega
            have HTT := Lib.hid ht
            have HYE := Lib.hid (show (fun t => (([86, 65, 76, 95], t.line, t.col) : Mark)) d.tabs[i] = ([86, 65, 76, 95], d.tabs[i].line, d.tabs[i].col) from rfl)
            have ho := ht.pl
            have hw := ht.wd
            obtain ⟨x0, y0, e0, -⟩ := ho.shape
            subst e0
            obtain ⟨x1, y1, e1, -⟩ := hw.shape
            subst e1
            generalize d.tabs[i].line = Ln at *
            generalize d.tabs[i].col = Cn at *
            generalize H2 ++ (d.tabs.take i).map (fun t => (([86, 65, 76, 95], t.line, t.col) : Mark)) = HH at *
            clear hrg ecs hpe ht hi
            go_upto_region 17 with (at_builtin; go_loud (refine wpList_append_elem3 (en := plV) places_ty6 HH ([86, 65, 76, 95], Ln, Cn) ho (Below.refl W.heap.size wr) hs0 (by omega) ?_ (hone := by simp [plV, Value.oneCell'])))
            rintro l1 W1 ho1 hb1 hg1 -
            have hw1 := hw.grown2 ho (by decide) hg1
            have hs1 := hb1.size
            have HO1 := Lib.hid ho1
            have HB1 := Lib.hid hb1
            obtain ⟨x2, y2, e2, -⟩ := ho1.shape
            rw [List.length_append, List.length_cons, List.length_nil, Nat.zero_add] at e2
            subst e2
            clear ho hw hg1 ho1 hb1 q0 q1 fr
            go_wp2_with (at_builtin; go_loud (refine wpList_append_elem3 (en := wdV) texts_ty6 HH ([86, 65, 76, 95], Ln, Cn) hw1 (Below.refl W.heap.size W1) (by omega) (by omega) ?_ (hone := by simp [wdV, Value.oneCell'])))
            rintro u1 W3 hu1 hb2 hg2 -
            have HN := Lib.hid (show Two6 W W3 _ u1 (H2 ++ (d.tabs.take (i + 1)).map (fun t => (([86, 65, 76, 95], t.line, t.col) : Mark))) by rw [← HTK.out, HYE.out]; exact ⟨HO1.out.grown2 hw1 (by decide) hg2, hu1, (HTT.out.bel.trans HB1.out).trans hb2⟩)
            clear hu1 hb2 hg2 hw1 hs1 hs0 HTT HO1 HB1
            go_wp2_with fail
            go_roundw
            case rel => exact ⟨i + 1, by omega, by go_num, HN.out⟩
            case measure => simp [intOf]; omega
          · have hjj : i = d.tabs.length := by omega
            have HF := Lib.hid (show Two6 W wr _ _ ((nodsD d).map headM) by rw [HHD.out]; rw [hjj, List.take_length, HH2.out, HH1.out] at ht; simpa [List.append_assoc] using ht)
            clear ht hjj hi hs0 f8
            go_wp2_with fail
            go_ret2
            exact ⟨_, _, rfl, HF.out.pl.fromBase (by rw [HKQ.out]; exact Nat.le_of_lt hkb), HF.out.wd.fromBase (by rw [HKQ.out]; exact Nat.le_of_lt hkb), by rw [HKQ.out]; exact HB.out.trans (HF.out.bel.mono (Nat.le_of_lt hkb))⟩
end Go.Proofs.YtlacjhjckkablaaGreatDoor
