/-
  The limits from both sides: what the law's own function answers.
-/
import Derived.Test.YtampdbkafkcfdaaGreatDoorPknB
import Derived.Test.YtampdbkafkcfdaaGreatDoorPlain
import Derived.Test.YtampdbkafkcfdaaGreatDoorNodD
import Derived.Test.YtampdbkafkcfdaaGreatDoorBarA

namespace Go.Proofs.YtampdbkafkcfdaaGreatDoor
set_option linter.unusedVariables false
open Go.RowKit

/-- a part as it is made, a message's signals not looked at -/
def fdNodeP (w : World) (n : NodeD) (cs : List Value) : Prop := match n with
  | .msg _ => ∃ C : Array Value, cs = [.iface 46 (.agg C)]
  | n => fdNode w n cs
theorem fdNode_p {w : World} {n : NodeD} {cs : List Value} (h : fdNode w n cs) : fdNodeP w n cs := by
  cases n with
  | msg m => obtain ⟨C, e, -⟩ := h; exact ⟨C, e⟩
  | ver v => exact h
  | sta s => exact h
  | tab t => exact h
theorem last_fdNodeP : Lasts fdNodeP := fun w w' x cs h hb => by
  cases x with
  | msg m => exact h
  | ver v => exact last_fdNode _ _ (.ver v) _ h hb
  | sta s => exact last_fdNode _ _ (.sta s) _ h hb
  | tab t => exact last_fdNode _ _ (.tab t) _ h hb
theorem apt_fdNodeP {e : TypeId} (he : 9 ≠ e) (he3 : 63 ≠ e) : Apt fdNodeP e := fun w w' x cs k C fz h hk hz hb => by
  cases x with
  | msg m => exact h
  | ver v => exact h
  | sta s => obtain ⟨D, h1, h2⟩ := h; exact ⟨D, h1, apt_fdSta he _ _ _ _ _ _ _ h2 hk hz hb⟩
  | tab t => obtain ⟨D, h1, h2⟩ := h; exact ⟨D, h1, apt_fdTab he3 _ _ _ _ _ _ _ h2 hk hz hb⟩
/-- the list's message set anew -/
theorem node_set {w : World} {B g cap : Nat} {s : StaD} {m0 m : MsgD} {t : TabD} {C' : Array Value} (h : OwnRd w B 69 fdNodeP 1 (.slice (some ⟨g, 0, none⟩) 3 cap) [.sta s, .msg m0, .tab t])
    (hm : fdMsg (w.setCell ⟨g, 1, none⟩ (.iface 46 (.agg C'))) m C'.toList) : OwnRd (w.setCell ⟨g, 1, none⟩ (.iface 46 (.agg C'))) B 69 fdNode 1 (.slice (some ⟨g, 0, none⟩) 3 cap) [.sta s, .msg m, .tab t] := by
  have h' := h.setE (apt_fdNodeP (by decide) (by decide)) (i := 1) (by show 1 < 3; decide) 0 (by decide) (.iface 46 (.agg C')) (.msg m) (fun cs ⟨D, e⟩ => ⟨C', by rw [e]; rfl⟩)
  have ha := h'.at0 (by decide) (i := 1) (by show 1 < 3; decide)
  obtain ⟨rows, h1, h2⟩ := h
  obtain ⟨r, hr⟩ : ∃ r : Row 1, r.1 = [.iface 46 (.agg C')] := ⟨⟨_, rfl⟩, rfl⟩
  cases h2 with
  | cons a h2 => cases h2 with
    | cons b h2 => cases h2 with
      | cons c h2 => cases h2 with
        | nil =>
          rename_i r0 r1 r2
          obtain ⟨D, hD⟩ := b
          have hg : ∃ c, w.heap[g]? = some (.cells c 69) := by
            rcases h1.2 with ⟨hv, h0⟩ | ⟨g, cap, cur, hv, hb, hg, -⟩
            · simp at h0
            · simp only [Value.slice.injEq, Option.some.injEq, Addr.mk.injEq] at hv
              obtain ⟨⟨rfl, -, -⟩, -, -⟩ := hv
              exact ⟨cur, hg⟩
          obtain ⟨c', hg⟩ := hg
          have o1 := h1.setCellRow (k := 1) (by show 1 < 3; decide) (show 0 < 1 by decide) (.iface 46 (.agg C')) r (by show r.1 = r1.1.set 0 _; rw [hr, hD]; rfl)
          have hk : ∀ x cs, fdNode w x cs → (∀ m, x ≠ .msg m) → fdNode (w.setCell ⟨g, 1, none⟩ (.iface 46 (.agg C'))) x cs := fun x cs hx hne => by
            have := apt_fdNodeP (e := 69) (by decide) (by decide) _ _ _ _ _ _ _ (fdNode_p hx) hg (show w.heap.size ≤ (w.setCell ⟨g, 1, none⟩ (.iface 46 (.agg C'))).heap.size by simp [World.setCell]) (fun k _ hne => Below.heap_setCell _ _ _ _ hne)
            cases x with
            | msg m => exact absurd rfl (hne m)
            | ver v => exact this
            | sta s => exact this
            | tab t => exact this
          exact ⟨[r0, r, r2], o1, .cons (hk _ _ a (fun m e => by cases e)) (.cons ⟨C', hr, hm⟩ (.cons (hk _ _ c (fun m e => by cases e)) .nil))⟩
theorem file_bad {y : DbD} (h : filN y = 4) : filT y = [] := by
  unfold filT
  rw [if_neg (by rw [h]; decide)]

set_option maxRecDepth 100000 in
set_option maxHeartbeats 32000000 in
theorem refused_any (k : Nat) (hk : k < 14) (w : World) (hT : TabsU w) (hp : PowTab w) (hg : LaidT w) :
    Calls Tryz.prog 16 #[.int .i64 k] w fun e w' => e = .returned (.bool true) ∧ Below w.heap.size w w' := by
  have cE := example_any w
  have huM := Tryz.underlying46
  have HTU := Lib.hid (fun W (h : Below w.heap.size w W) => TabsU.keep hT h)
  have HPT := Lib.hid (fun W (h : Below w.heap.size w W) => PowTab.keep hp h)
  have HGT := Lib.hid (fun W (h : Below w.heap.size w W) => LaidT.keep hg h)
  have CF := Lib.hid (fun (h : k < 14) => file_parts (exD (tM k)) (exD_ok (tM k) (tM_ok k h)).1 (exD_ok (tM k) (tM_ok k h)).2)
  have CN := Lib.hid (tM_bad k)
  have CPL := Lib.hid (fun W h => plain_errno 4 4 (by omega) (by omega) W h)
  clear hT hp hg
  go_enter Tryz.func16, Tryz.ntmps16
  go_wp2_with fail
  with_reducible refine cE.mono ?_
  rintro e w1 ⟨v, rfl, hown, hb⟩
  rw [ex_nod] at hown
  have HB1 := Lib.hid hb
  obtain ⟨g, capN, rfl, hgB, hgl, -, cs1, hcl1, hrd1, hrg1⟩ := hown.at0 (by decide) (i := 1) (by show 1 < 3; decide)
  obtain ⟨CM, rfl, hfm⟩ := hrd1
  have f1 : w1.cell? ⟨g, 1, none⟩ = some (.iface 46 (.agg CM)) := hrg1 0 _ rfl
  have cM := nmsgI_any exM w1 CM (fd_msg hfm) (by decide) (by decide)
  have HON := Lib.hid (hown.weak (rd' := fdNodeP) fun _ _ h => fdNode_p h)
  clear hown hfm hrg1 hcl1 hb cE
  simp only [List.length_cons, List.length_nil, Nat.reduceAdd] at *
  go_wp2_with fail
  with_reducible refine cM.mono ?_
  rintro e w2 ⟨C, rfl, ⟨vs, eC, hos⟩, hb⟩
  obtain ⟨gs, capS, rfl, hsB, hsl, ⟨D, hD⟩, cs2, hcl2, hrd2, hrg2⟩ := hos.at0 (by decide) (i := 1) (by show 1 < 2; decide)
  simp only [List.length_cons, List.length_nil, Nat.reduceAdd] at *
  obtain ⟨vr, rfl, hor⟩ := hrd2
  have hb3 : Below w2.heap.size w2 (w2.alloc (.cells C 46)) := (Below.refl _ _).alloc (Nat.le_refl _) _
  have HK4 := Lib.hid (heap_alloc_new w2 (.cells C 46))
  have HGS := Lib.hid (show w.heap.size ≤ gs from Nat.le_trans HB1.out.size hsB)
  have HOS := Lib.hid ((hos.fromBase (Nat.zero_le _)).keep last_fdSig hb3)
  have HN3 := Lib.hid ((HON.out.keep last_fdNodeP hb).keep last_fdNodeP hb3)
  have HB3 := Lib.hid (bstep (bstep HB1.out hb (Nat.le_refl _)) hb3 (Nat.le_refl _))
  have HD := Lib.hid (Blk.kindAt hD hb3)
  have HR := Lib.hid (show (w2.alloc (.cells C 46)).rangeAt gs 19 (exS2.d.cells vr).toList from fun j v hv => cell_keep' (hrg2 j v hv) hb3)
  have hC8 : C.size = 8 := by rw [Array.toList_inj.1 eC]; rfl
  have hC1 : C.all (·.oneCell') = true := by rw [Array.toList_inj.1 eC]; exact MsgD.cells_one _ _ _ _
  have HC := Lib.hid (Array.toList_inj.1 eC)
  have hk4 : w.heap.size ≤ w2.heap.size := (bstep HB1.out hb (Nat.le_refl _)).size
  have HNE := Lib.hid (show w2.heap.size ≠ gs by omega)
  have f7 : (w2.alloc (.cells C 46)).cell? ⟨w2.heap.size, 7, none⟩ = some (.slice (some ⟨gs, 0, none⟩) 2 capS) := Blk.cell ⟨_, HK4.out⟩ 7 _ (by rw [HC.out]; rfl)
  clear hos hD hb3 HON HB1 hrg2 hcl2 hor f1 cM hb eC
  go_upto_region 4 with (refine wpList_newS (Z := zeroMsgD) (cs := C) 46 (.tmp 4) (.tmp 12) (by rw [hC8]; exact msg_zero) (by rw [hC8]; rfl) hC1 ?_)
  clear f7
  generalize w2.alloc (.cells C 46) = W3 at *
  generalize w2.heap.size = k4 at *
  have hkk : k = 0 ∨ k = 1 ∨ k = 2 ∨ k = 3 ∨ k = 4 ∨ k = 5 ∨ k = 6 ∨ k = 7 ∨ k = 8 ∨ k = 9 ∨ k = 10 ∨ k = 11 ∨ k = 12 ∨ k = 13 := by omega
  rcases hkk with rfl | rfl | rfl | rfl | rfl | rfl | rfl | rfl | rfl | rfl | rfl | rfl | rfl | rfl

  · -- turn 0
    have c0 := Blk.cell ⟨_, HK4.out⟩ 4 (.string ⟨#[77]⟩) (by rw [HC.out]; rfl)
    have r0 := Blk.free ⟨_, HK4.out⟩ 4
    have K5 := Lib.hid (setCell_at HK4.out 4 (.string ⟨#[66, 79, 95]⟩))
    have S5 : Hid (OwnRd _ 0 53 fdSig 19 (.slice (some ⟨gs, 0, none⟩) 2 capS) [exS1, exS2]) := Lib.hid (HOS.out.setAt HK4.out (by decide) (apt_fdSig (by decide)) 4 (.string ⟨#[66, 79, 95]⟩))
    have N5 := Lib.hid (HN3.out.setAt HK4.out (by decide) (apt_fdNodeP (by decide) (by decide)) 4 (.string ⟨#[66, 79, 95]⟩))
    have B5 := Lib.hid (below_set HB3.out hk4 4 (.string ⟨#[66, 79, 95]⟩))
    go_upto_region 33 with fail
    clear c0 r0
    generalize W3.setCell ⟨k4, 4, none⟩ (.string ⟨#[66, 79, 95]⟩) = W5 at *
    obtain ⟨C5, hC5e⟩ : ∃ C5, C5 = C.setIfInBounds 4 (.string ⟨#[66, 79, 95]⟩) := ⟨_, rfl⟩
    have C5E := Lib.hid (show C5 = (tM 0).cells (.slice (some ⟨gs, 0, none⟩) 2 capS) by rw [hC5e, HC.out]; rfl)
    rw [← hC5e] at K5
    clear hC5e
    obtain ⟨g5, cap5, he5, hgB5, hgl5, ⟨D5, hD5⟩, cs5, hcl5, hrd5, hrg5⟩ := N5.out.at0 (by decide) (i := 1) (by show 1 < 3; decide)
    simp only [Value.slice.injEq, Option.some.injEq, Addr.mk.injEq, and_true] at he5
    obtain ⟨rfl, -⟩ := he5
    obtain ⟨CM5, rfl⟩ := hrd5
    have f1 : W5.cell? ⟨g, 1, none⟩ = some (.iface 46 (.agg CM5)) := hrg5 0 _ rfl
    have r1 : W5.frozen? ⟨g, 1, none⟩ = false := Blk.free ⟨_, hD5⟩ 1
    have b5 : Blk W5 k4 C5 := ⟨_, K5.out⟩
    have hC5 : C5.size = 8 := by rw [C5E.out]; rfl
    have fM : fdMsg (W5.setCell ⟨g, 1, none⟩ (.iface 46 (.agg C5))) (tM 0) C5.toList := ⟨.slice (some ⟨gs, 0, none⟩) 2 capS, congrArg Array.toList C5E.out, S5.out.setAt hD5 (by decide) (apt_fdSig (by decide)) 1 _⟩
    have N6 := Lib.hid (node_set N5.out fM)
    have B6 := Lib.hid (below_set B5.out hgB 1 (.iface 46 (.agg C5)))
    clear hcl5 hrg5 hgB5 hgl5 fM hD5
    go_upto_region 34 with (refine wpList_loadS b5 46 (.tmp 4) huM (by rw [hC5]; exact msg_size) ?_)
    clear f1 r1 b5
    generalize W5.setCell ⟨g, 1, none⟩ (.iface 46 (.agg C5)) = W6 at *
    obtain ⟨a6, c6, e6, hs6⟩ := N6.out.shape
    simp only [Value.slice.injEq] at e6
    obtain ⟨rfl, -, rfl⟩ := e6
    have cF := CF.out (by decide) 3 rfl _ _ W6 (hs6.weak fun _ _ => fd_node) (HTU.out _ B6.out) (HPT.out _ B6.out)
    rw [file_bad (CN.out (by decide)), CN.out (by decide), if_neg (by decide)] at cF
    clear hs6
    go_wp2_with fail
    with_reducible refine cF.mono ?_
    rintro e w7 ⟨rfl, hb⟩
    have HB7 := Lib.hid (bstep B6.out hb (Nat.le_refl _))
    have cP := CPL.out w7 (HGT.out _ HB7.out)
    clear hb cF
    go_wp2_with fail
    with_reducible refine cP.mono ?_
    rintro e w8 ⟨rfl, hb⟩
    have HB8 := Lib.hid (bstep HB7.out hb (Nat.le_refl _))
    clear hb cP
    go_wp2_with fail
    go_ret
    exact ⟨rfl, HB8.out⟩
  · -- turn 1
    have c0 : W3.cell? ⟨gs, 28, none⟩ = some (.int .i64 1) := HR.out 9 (.int .i64 1) rfl
    have c1 : W3.cell? ⟨gs, 29, none⟩ = some (.int .i64 2) := HR.out 10 (.int .i64 2) rfl
    have r0 := Blk.free ⟨_, HD.out⟩ 28
    have r1 := Blk.free ⟨_, HD.out⟩ 29
    have HD2 := setCell_at HD.out 28 (.int .i64 1)
    have K5 := Lib.hid (setCell_ne (setCell_ne HK4.out HNE.out 28 (.int .i64 1)) HNE.out 29 (.int .i64 3))
    have S4 : OwnRd (W3.setCell ⟨gs, 28, none⟩ (.int .i64 1)) 0 53 fdSig 19 (.slice (some ⟨gs, 0, none⟩) 2 capS) [exS1, ⟨{ exS2.d with sn := 1 }, exS2.rs⟩] := HOS.out.setE (apt_fdSig (by decide)) (i := 1) (by show 1 < 2; decide) 9 (by decide) (.int .i64 1) ⟨{ exS2.d with sn := 1 }, exS2.rs⟩ (fun cs ⟨vr, e1, ho⟩ => ⟨vr, by rw [e1]; rfl, ho⟩)
    have S5 : Hid (OwnRd ((W3.setCell ⟨gs, 28, none⟩ (.int .i64 1)).setCell ⟨gs, 29, none⟩ (.int .i64 3)) 0 53 fdSig 19 (.slice (some ⟨gs, 0, none⟩) 2 capS) [exS1, tS 1]) := Lib.hid (S4.setE (apt_fdSig (by decide)) (i := 1) (by show 1 < 2; decide) 10 (by decide) (.int .i64 3) (tS 1) (fun cs ⟨vr, e1, ho⟩ => ⟨vr, by rw [e1]; rfl, ho⟩))
    have N5 := Lib.hid ((HN3.out.setAt HD.out (by decide) (apt_fdNodeP (by decide) (by decide)) 28 (.int .i64 1)).setAt HD2 (by decide) (apt_fdNodeP (by decide) (by decide)) 29 (.int .i64 3))
    have B5 := Lib.hid (below_set (below_set HB3.out HGS.out 28 (.int .i64 1)) HGS.out 29 (.int .i64 3))
    clear HD2 S4
    go_upto_region 33 with fail
    clear c0 r0 c1 r1
    generalize (W3.setCell ⟨gs, 28, none⟩ (.int .i64 1)).setCell ⟨gs, 29, none⟩ (.int .i64 3) = W5 at *
    obtain ⟨C5, hC5e⟩ : ∃ C5, C5 = C := ⟨_, rfl⟩
    have C5E := Lib.hid (show C5 = (tM 1).cells (.slice (some ⟨gs, 0, none⟩) 2 capS) by rw [hC5e, HC.out]; rfl)
    rw [← hC5e] at K5
    clear hC5e
    obtain ⟨g5, cap5, he5, hgB5, hgl5, ⟨D5, hD5⟩, cs5, hcl5, hrd5, hrg5⟩ := N5.out.at0 (by decide) (i := 1) (by show 1 < 3; decide)
    simp only [Value.slice.injEq, Option.some.injEq, Addr.mk.injEq, and_true] at he5
    obtain ⟨rfl, -⟩ := he5
    obtain ⟨CM5, rfl⟩ := hrd5
    have f1 : W5.cell? ⟨g, 1, none⟩ = some (.iface 46 (.agg CM5)) := hrg5 0 _ rfl
    have r1 : W5.frozen? ⟨g, 1, none⟩ = false := Blk.free ⟨_, hD5⟩ 1
    have b5 : Blk W5 k4 C5 := ⟨_, K5.out⟩
    have hC5 : C5.size = 8 := by rw [C5E.out]; rfl
    have fM : fdMsg (W5.setCell ⟨g, 1, none⟩ (.iface 46 (.agg C5))) (tM 1) C5.toList := ⟨.slice (some ⟨gs, 0, none⟩) 2 capS, congrArg Array.toList C5E.out, S5.out.setAt hD5 (by decide) (apt_fdSig (by decide)) 1 _⟩
    have N6 := Lib.hid (node_set N5.out fM)
    have B6 := Lib.hid (below_set B5.out hgB 1 (.iface 46 (.agg C5)))
    clear hcl5 hrg5 hgB5 hgl5 fM hD5
    go_upto_region 34 with (refine wpList_loadS b5 46 (.tmp 4) huM (by rw [hC5]; exact msg_size) ?_)
    clear f1 r1 b5
    generalize W5.setCell ⟨g, 1, none⟩ (.iface 46 (.agg C5)) = W6 at *
    obtain ⟨a6, c6, e6, hs6⟩ := N6.out.shape
    simp only [Value.slice.injEq] at e6
    obtain ⟨rfl, -, rfl⟩ := e6
    have cF := CF.out (by decide) 3 rfl _ _ W6 (hs6.weak fun _ _ => fd_node) (HTU.out _ B6.out) (HPT.out _ B6.out)
    rw [file_bad (CN.out (by decide)), CN.out (by decide), if_neg (by decide)] at cF
    clear hs6
    go_wp2_with fail
    with_reducible refine cF.mono ?_
    rintro e w7 ⟨rfl, hb⟩
    have HB7 := Lib.hid (bstep B6.out hb (Nat.le_refl _))
    have cP := CPL.out w7 (HGT.out _ HB7.out)
    clear hb cF
    go_wp2_with fail
    with_reducible refine cP.mono ?_
    rintro e w8 ⟨rfl, hb⟩
    have HB8 := Lib.hid (bstep HB7.out hb (Nat.le_refl _))
    clear hb cP
    go_wp2_with fail
    go_ret
    exact ⟨rfl, HB8.out⟩
  · -- turn 2
    have c0 : W3.cell? ⟨gs, 36, none⟩ = some (.string ⟨#[107, 109]⟩) := HR.out 17 (.string ⟨#[107, 109]⟩) rfl
    have r0 := Blk.free ⟨_, HD.out⟩ 36
    have K5 := Lib.hid (setCell_ne HK4.out HNE.out 36 (.string ⟨#[10]⟩))
    have S5 : Hid (OwnRd (W3.setCell ⟨gs, 36, none⟩ (.string ⟨#[10]⟩)) 0 53 fdSig 19 (.slice (some ⟨gs, 0, none⟩) 2 capS) [exS1, tS 2]) := Lib.hid (HOS.out.setE (apt_fdSig (by decide)) (i := 1) (by show 1 < 2; decide) 17 (by decide) (.string ⟨#[10]⟩) (tS 2) (fun cs ⟨vr, e1, ho⟩ => ⟨vr, by rw [e1]; rfl, ho⟩))
    have N5 := Lib.hid (HN3.out.setAt HD.out (by decide) (apt_fdNodeP (by decide) (by decide)) 36 (.string ⟨#[10]⟩))
    have B5 := Lib.hid (below_set HB3.out HGS.out 36 (.string ⟨#[10]⟩))
    go_upto_region 33 with fail
    clear c0 r0
    generalize W3.setCell ⟨gs, 36, none⟩ (.string ⟨#[10]⟩) = W5 at *
    obtain ⟨C5, hC5e⟩ : ∃ C5, C5 = C := ⟨_, rfl⟩
    have C5E := Lib.hid (show C5 = (tM 2).cells (.slice (some ⟨gs, 0, none⟩) 2 capS) by rw [hC5e, HC.out]; rfl)
    rw [← hC5e] at K5
    clear hC5e
    obtain ⟨g5, cap5, he5, hgB5, hgl5, ⟨D5, hD5⟩, cs5, hcl5, hrd5, hrg5⟩ := N5.out.at0 (by decide) (i := 1) (by show 1 < 3; decide)
    simp only [Value.slice.injEq, Option.some.injEq, Addr.mk.injEq, and_true] at he5
    obtain ⟨rfl, -⟩ := he5
    obtain ⟨CM5, rfl⟩ := hrd5
    have f1 : W5.cell? ⟨g, 1, none⟩ = some (.iface 46 (.agg CM5)) := hrg5 0 _ rfl
    have r1 : W5.frozen? ⟨g, 1, none⟩ = false := Blk.free ⟨_, hD5⟩ 1
    have b5 : Blk W5 k4 C5 := ⟨_, K5.out⟩
    have hC5 : C5.size = 8 := by rw [C5E.out]; rfl
    have fM : fdMsg (W5.setCell ⟨g, 1, none⟩ (.iface 46 (.agg C5))) (tM 2) C5.toList := ⟨.slice (some ⟨gs, 0, none⟩) 2 capS, congrArg Array.toList C5E.out, S5.out.setAt hD5 (by decide) (apt_fdSig (by decide)) 1 _⟩
    have N6 := Lib.hid (node_set N5.out fM)
    have B6 := Lib.hid (below_set B5.out hgB 1 (.iface 46 (.agg C5)))
    clear hcl5 hrg5 hgB5 hgl5 fM hD5
    go_upto_region 34 with (refine wpList_loadS b5 46 (.tmp 4) huM (by rw [hC5]; exact msg_size) ?_)
    clear f1 r1 b5
    generalize W5.setCell ⟨g, 1, none⟩ (.iface 46 (.agg C5)) = W6 at *
    obtain ⟨a6, c6, e6, hs6⟩ := N6.out.shape
    simp only [Value.slice.injEq] at e6
    obtain ⟨rfl, -, rfl⟩ := e6
    have cF := CF.out (by decide) 3 rfl _ _ W6 (hs6.weak fun _ _ => fd_node) (HTU.out _ B6.out) (HPT.out _ B6.out)
    rw [file_bad (CN.out (by decide)), CN.out (by decide), if_neg (by decide)] at cF
    clear hs6
    go_wp2_with fail
    with_reducible refine cF.mono ?_
    rintro e w7 ⟨rfl, hb⟩
    have HB7 := Lib.hid (bstep B6.out hb (Nat.le_refl _))
    have cP := CPL.out w7 (HGT.out _ HB7.out)
    clear hb cF
    go_wp2_with fail
    with_reducible refine cP.mono ?_
    rintro e w8 ⟨rfl, hb⟩
    have HB8 := Lib.hid (bstep HB7.out hb (Nat.le_refl _))
    clear hb cP
    go_wp2_with fail
    go_ret
    exact ⟨rfl, HB8.out⟩
  · -- turn 3
    have c0 := Blk.cell ⟨_, HK4.out⟩ 2 (.int .u32 5) (by rw [HC.out]; rfl)
    have r0 := Blk.free ⟨_, HK4.out⟩ 2
    have K5 := Lib.hid (setCell_at HK4.out 2 (.int .u32 2147483648))
    have S5 : Hid (OwnRd _ 0 53 fdSig 19 (.slice (some ⟨gs, 0, none⟩) 2 capS) [exS1, exS2]) := Lib.hid (HOS.out.setAt HK4.out (by decide) (apt_fdSig (by decide)) 2 (.int .u32 2147483648))
    have N5 := Lib.hid (HN3.out.setAt HK4.out (by decide) (apt_fdNodeP (by decide) (by decide)) 2 (.int .u32 2147483648))
    have B5 := Lib.hid (below_set HB3.out hk4 2 (.int .u32 2147483648))
    go_upto_region 33 with fail
    clear c0 r0
    generalize W3.setCell ⟨k4, 2, none⟩ (.int .u32 2147483648) = W5 at *
    obtain ⟨C5, hC5e⟩ : ∃ C5, C5 = C.setIfInBounds 2 (.int .u32 2147483648) := ⟨_, rfl⟩
    have C5E := Lib.hid (show C5 = (tM 3).cells (.slice (some ⟨gs, 0, none⟩) 2 capS) by rw [hC5e, HC.out]; rfl)
    rw [← hC5e] at K5
    clear hC5e
    obtain ⟨g5, cap5, he5, hgB5, hgl5, ⟨D5, hD5⟩, cs5, hcl5, hrd5, hrg5⟩ := N5.out.at0 (by decide) (i := 1) (by show 1 < 3; decide)
    simp only [Value.slice.injEq, Option.some.injEq, Addr.mk.injEq, and_true] at he5
    obtain ⟨rfl, -⟩ := he5
    obtain ⟨CM5, rfl⟩ := hrd5
    have f1 : W5.cell? ⟨g, 1, none⟩ = some (.iface 46 (.agg CM5)) := hrg5 0 _ rfl
    have r1 : W5.frozen? ⟨g, 1, none⟩ = false := Blk.free ⟨_, hD5⟩ 1
    have b5 : Blk W5 k4 C5 := ⟨_, K5.out⟩
    have hC5 : C5.size = 8 := by rw [C5E.out]; rfl
    have fM : fdMsg (W5.setCell ⟨g, 1, none⟩ (.iface 46 (.agg C5))) (tM 3) C5.toList := ⟨.slice (some ⟨gs, 0, none⟩) 2 capS, congrArg Array.toList C5E.out, S5.out.setAt hD5 (by decide) (apt_fdSig (by decide)) 1 _⟩
    have N6 := Lib.hid (node_set N5.out fM)
    have B6 := Lib.hid (below_set B5.out hgB 1 (.iface 46 (.agg C5)))
    clear hcl5 hrg5 hgB5 hgl5 fM hD5
    go_upto_region 34 with (refine wpList_loadS b5 46 (.tmp 4) huM (by rw [hC5]; exact msg_size) ?_)
    clear f1 r1 b5
    generalize W5.setCell ⟨g, 1, none⟩ (.iface 46 (.agg C5)) = W6 at *
    obtain ⟨a6, c6, e6, hs6⟩ := N6.out.shape
    simp only [Value.slice.injEq] at e6
    obtain ⟨rfl, -, rfl⟩ := e6
    have cF := CF.out (by decide) 3 rfl _ _ W6 (hs6.weak fun _ _ => fd_node) (HTU.out _ B6.out) (HPT.out _ B6.out)
    rw [file_bad (CN.out (by decide)), CN.out (by decide), if_neg (by decide)] at cF
    clear hs6
    go_wp2_with fail
    with_reducible refine cF.mono ?_
    rintro e w7 ⟨rfl, hb⟩
    have HB7 := Lib.hid (bstep B6.out hb (Nat.le_refl _))
    have cP := CPL.out w7 (HGT.out _ HB7.out)
    clear hb cF
    go_wp2_with fail
    with_reducible refine cP.mono ?_
    rintro e w8 ⟨rfl, hb⟩
    have HB8 := Lib.hid (bstep HB7.out hb (Nat.le_refl _))
    clear hb cP
    go_wp2_with fail
    go_ret
    exact ⟨rfl, HB8.out⟩
  · -- turn 4
    have c0 : W3.cell? ⟨gs, 37, none⟩ = some vr := HR.out 18 _ rfl
    have r0 := Blk.free ⟨_, HD.out⟩ 37
    have K5 := Lib.hid (setCell_ne HK4.out HNE.out 37 (.slice none 0 0))
    have S5 : Hid (OwnRd (W3.setCell ⟨gs, 37, none⟩ (.slice none 0 0)) 0 53 fdSig 19 (.slice (some ⟨gs, 0, none⟩) 2 capS) [exS1, tS 4]) := Lib.hid (HOS.out.setE (apt_fdSig (by decide)) (i := 1) (by show 1 < 2; decide) 18 (by decide) (.slice none 0 0) (tS 4) (fun cs ⟨vr, e1, ho⟩ => ⟨.slice none 0 0, by rw [e1]; rfl, Owns.nil _ _ _ _ _⟩))
    have N5 := Lib.hid (HN3.out.setAt HD.out (by decide) (apt_fdNodeP (by decide) (by decide)) 37 (.slice none 0 0))
    have B5 := Lib.hid (below_set HB3.out HGS.out 37 (.slice none 0 0))
    go_upto_region 33 with fail
    clear c0 r0
    generalize W3.setCell ⟨gs, 37, none⟩ (.slice none 0 0) = W5 at *
    obtain ⟨C5, hC5e⟩ : ∃ C5, C5 = C := ⟨_, rfl⟩
    have C5E := Lib.hid (show C5 = (tM 4).cells (.slice (some ⟨gs, 0, none⟩) 2 capS) by rw [hC5e, HC.out]; rfl)
    rw [← hC5e] at K5
    clear hC5e
    obtain ⟨g5, cap5, he5, hgB5, hgl5, ⟨D5, hD5⟩, cs5, hcl5, hrd5, hrg5⟩ := N5.out.at0 (by decide) (i := 1) (by show 1 < 3; decide)
    simp only [Value.slice.injEq, Option.some.injEq, Addr.mk.injEq, and_true] at he5
    obtain ⟨rfl, -⟩ := he5
    obtain ⟨CM5, rfl⟩ := hrd5
    have f1 : W5.cell? ⟨g, 1, none⟩ = some (.iface 46 (.agg CM5)) := hrg5 0 _ rfl
    have r1 : W5.frozen? ⟨g, 1, none⟩ = false := Blk.free ⟨_, hD5⟩ 1
    have b5 : Blk W5 k4 C5 := ⟨_, K5.out⟩
    have hC5 : C5.size = 8 := by rw [C5E.out]; rfl
    have fM : fdMsg (W5.setCell ⟨g, 1, none⟩ (.iface 46 (.agg C5))) (tM 4) C5.toList := ⟨.slice (some ⟨gs, 0, none⟩) 2 capS, congrArg Array.toList C5E.out, S5.out.setAt hD5 (by decide) (apt_fdSig (by decide)) 1 _⟩
    have N6 := Lib.hid (node_set N5.out fM)
    have B6 := Lib.hid (below_set B5.out hgB 1 (.iface 46 (.agg C5)))
    clear hcl5 hrg5 hgB5 hgl5 fM hD5
    go_upto_region 34 with (refine wpList_loadS b5 46 (.tmp 4) huM (by rw [hC5]; exact msg_size) ?_)
    clear f1 r1 b5
    generalize W5.setCell ⟨g, 1, none⟩ (.iface 46 (.agg C5)) = W6 at *
    obtain ⟨a6, c6, e6, hs6⟩ := N6.out.shape
    simp only [Value.slice.injEq] at e6
    obtain ⟨rfl, -, rfl⟩ := e6
    have cF := CF.out (by decide) 3 rfl _ _ W6 (hs6.weak fun _ _ => fd_node) (HTU.out _ B6.out) (HPT.out _ B6.out)
    rw [file_bad (CN.out (by decide)), CN.out (by decide), if_neg (by decide)] at cF
    clear hs6
    go_wp2_with fail
    with_reducible refine cF.mono ?_
    rintro e w7 ⟨rfl, hb⟩
    have HB7 := Lib.hid (bstep B6.out hb (Nat.le_refl _))
    have cP := CPL.out w7 (HGT.out _ HB7.out)
    clear hb cF
    go_wp2_with fail
    with_reducible refine cP.mono ?_
    rintro e w8 ⟨rfl, hb⟩
    have HB8 := Lib.hid (bstep HB7.out hb (Nat.le_refl _))
    clear hb cP
    go_wp2_with fail
    go_ret
    exact ⟨rfl, HB8.out⟩
  · -- turn 5
    have c0 : W3.cell? ⟨gs, 22, none⟩ = some (.int .i64 2) := HR.out 3 (.int .i64 2) rfl
    have r0 := Blk.free ⟨_, HD.out⟩ 22
    have K5 := Lib.hid (setCell_ne HK4.out HNE.out 22 (.int .i64 3))
    have S5 : Hid (OwnRd (W3.setCell ⟨gs, 22, none⟩ (.int .i64 3)) 0 53 fdSig 19 (.slice (some ⟨gs, 0, none⟩) 2 capS) [exS1, tS 5]) := Lib.hid (HOS.out.setE (apt_fdSig (by decide)) (i := 1) (by show 1 < 2; decide) 3 (by decide) (.int .i64 3) (tS 5) (fun cs ⟨vr, e1, ho⟩ => ⟨vr, by rw [e1]; rfl, ho⟩))
    have N5 := Lib.hid (HN3.out.setAt HD.out (by decide) (apt_fdNodeP (by decide) (by decide)) 22 (.int .i64 3))
    have B5 := Lib.hid (below_set HB3.out HGS.out 22 (.int .i64 3))
    go_upto_region 33 with fail
    clear c0 r0
    generalize W3.setCell ⟨gs, 22, none⟩ (.int .i64 3) = W5 at *
    obtain ⟨C5, hC5e⟩ : ∃ C5, C5 = C := ⟨_, rfl⟩
    have C5E := Lib.hid (show C5 = (tM 5).cells (.slice (some ⟨gs, 0, none⟩) 2 capS) by rw [hC5e, HC.out]; rfl)
    rw [← hC5e] at K5
    clear hC5e
    obtain ⟨g5, cap5, he5, hgB5, hgl5, ⟨D5, hD5⟩, cs5, hcl5, hrd5, hrg5⟩ := N5.out.at0 (by decide) (i := 1) (by show 1 < 3; decide)
    simp only [Value.slice.injEq, Option.some.injEq, Addr.mk.injEq, and_true] at he5
    obtain ⟨rfl, -⟩ := he5
    obtain ⟨CM5, rfl⟩ := hrd5
    have f1 : W5.cell? ⟨g, 1, none⟩ = some (.iface 46 (.agg CM5)) := hrg5 0 _ rfl
    have r1 : W5.frozen? ⟨g, 1, none⟩ = false := Blk.free ⟨_, hD5⟩ 1
    have b5 : Blk W5 k4 C5 := ⟨_, K5.out⟩
    have hC5 : C5.size = 8 := by rw [C5E.out]; rfl
    have fM : fdMsg (W5.setCell ⟨g, 1, none⟩ (.iface 46 (.agg C5))) (tM 5) C5.toList := ⟨.slice (some ⟨gs, 0, none⟩) 2 capS, congrArg Array.toList C5E.out, S5.out.setAt hD5 (by decide) (apt_fdSig (by decide)) 1 _⟩
    have N6 := Lib.hid (node_set N5.out fM)
    have B6 := Lib.hid (below_set B5.out hgB 1 (.iface 46 (.agg C5)))
    clear hcl5 hrg5 hgB5 hgl5 fM hD5
    go_upto_region 34 with (refine wpList_loadS b5 46 (.tmp 4) huM (by rw [hC5]; exact msg_size) ?_)
    clear f1 r1 b5
    generalize W5.setCell ⟨g, 1, none⟩ (.iface 46 (.agg C5)) = W6 at *
    obtain ⟨a6, c6, e6, hs6⟩ := N6.out.shape
    simp only [Value.slice.injEq] at e6
    obtain ⟨rfl, -, rfl⟩ := e6
    have cF := CF.out (by decide) 3 rfl _ _ W6 (hs6.weak fun _ _ => fd_node) (HTU.out _ B6.out) (HPT.out _ B6.out)
    rw [file_bad (CN.out (by decide)), CN.out (by decide), if_neg (by decide)] at cF
    clear hs6
    go_wp2_with fail
    with_reducible refine cF.mono ?_
    rintro e w7 ⟨rfl, hb⟩
    have HB7 := Lib.hid (bstep B6.out hb (Nat.le_refl _))
    have cP := CPL.out w7 (HGT.out _ HB7.out)
    clear hb cF
    go_wp2_with fail
    with_reducible refine cP.mono ?_
    rintro e w8 ⟨rfl, hb⟩
    have HB8 := Lib.hid (bstep HB7.out hb (Nat.le_refl _))
    clear hb cP
    go_wp2_with fail
    go_ret
    exact ⟨rfl, HB8.out⟩
  · -- turn 6
    have c0 : W3.cell? ⟨gs, 22, none⟩ = some (.int .i64 2) := HR.out 3 (.int .i64 2) rfl
    have r0 := Blk.free ⟨_, HD.out⟩ 22
    have K5 := Lib.hid (setCell_ne HK4.out HNE.out 22 (.int .i64 0))
    have S5 : Hid (OwnRd (W3.setCell ⟨gs, 22, none⟩ (.int .i64 0)) 0 53 fdSig 19 (.slice (some ⟨gs, 0, none⟩) 2 capS) [exS1, tS 6]) := Lib.hid (HOS.out.setE (apt_fdSig (by decide)) (i := 1) (by show 1 < 2; decide) 3 (by decide) (.int .i64 0) (tS 6) (fun cs ⟨vr, e1, ho⟩ => ⟨vr, by rw [e1]; rfl, ho⟩))
    have N5 := Lib.hid (HN3.out.setAt HD.out (by decide) (apt_fdNodeP (by decide) (by decide)) 22 (.int .i64 0))
    have B5 := Lib.hid (below_set HB3.out HGS.out 22 (.int .i64 0))
    go_upto_region 33 with fail
    clear c0 r0
    generalize W3.setCell ⟨gs, 22, none⟩ (.int .i64 0) = W5 at *
    obtain ⟨C5, hC5e⟩ : ∃ C5, C5 = C := ⟨_, rfl⟩
    have C5E := Lib.hid (show C5 = (tM 6).cells (.slice (some ⟨gs, 0, none⟩) 2 capS) by rw [hC5e, HC.out]; rfl)
    rw [← hC5e] at K5
    clear hC5e
    obtain ⟨g5, cap5, he5, hgB5, hgl5, ⟨D5, hD5⟩, cs5, hcl5, hrd5, hrg5⟩ := N5.out.at0 (by decide) (i := 1) (by show 1 < 3; decide)
    simp only [Value.slice.injEq, Option.some.injEq, Addr.mk.injEq, and_true] at he5
    obtain ⟨rfl, -⟩ := he5
    obtain ⟨CM5, rfl⟩ := hrd5
    have f1 : W5.cell? ⟨g, 1, none⟩ = some (.iface 46 (.agg CM5)) := hrg5 0 _ rfl
    have r1 : W5.frozen? ⟨g, 1, none⟩ = false := Blk.free ⟨_, hD5⟩ 1
    have b5 : Blk W5 k4 C5 := ⟨_, K5.out⟩
    have hC5 : C5.size = 8 := by rw [C5E.out]; rfl
    have fM : fdMsg (W5.setCell ⟨g, 1, none⟩ (.iface 46 (.agg C5))) (tM 6) C5.toList := ⟨.slice (some ⟨gs, 0, none⟩) 2 capS, congrArg Array.toList C5E.out, S5.out.setAt hD5 (by decide) (apt_fdSig (by decide)) 1 _⟩
    have N6 := Lib.hid (node_set N5.out fM)
    have B6 := Lib.hid (below_set B5.out hgB 1 (.iface 46 (.agg C5)))
    clear hcl5 hrg5 hgB5 hgl5 fM hD5
    go_upto_region 34 with (refine wpList_loadS b5 46 (.tmp 4) huM (by rw [hC5]; exact msg_size) ?_)
    clear f1 r1 b5
    generalize W5.setCell ⟨g, 1, none⟩ (.iface 46 (.agg C5)) = W6 at *
    obtain ⟨a6, c6, e6, hs6⟩ := N6.out.shape
    simp only [Value.slice.injEq] at e6
    obtain ⟨rfl, -, rfl⟩ := e6
    have cF := CF.out (by decide) 3 rfl _ _ W6 (hs6.weak fun _ _ => fd_node) (HTU.out _ B6.out) (HPT.out _ B6.out)
    rw [file_bad (CN.out (by decide)), CN.out (by decide), if_neg (by decide)] at cF
    clear hs6
    go_wp2_with fail
    with_reducible refine cF.mono ?_
    rintro e w7 ⟨rfl, hb⟩
    have HB7 := Lib.hid (bstep B6.out hb (Nat.le_refl _))
    have cP := CPL.out w7 (HGT.out _ HB7.out)
    clear hb cF
    go_wp2_with fail
    with_reducible refine cP.mono ?_
    rintro e w8 ⟨rfl, hb⟩
    have HB8 := Lib.hid (bstep HB7.out hb (Nat.le_refl _))
    clear hb cP
    go_wp2_with fail
    go_ret
    exact ⟨rfl, HB8.out⟩
  · -- turn 7
    have c0 : W3.cell? ⟨gs, 24, none⟩ = some (.int .i64 15) := HR.out 5 (.int .i64 15) rfl
    have r0 := Blk.free ⟨_, HD.out⟩ 24
    have K5 := Lib.hid (setCell_ne HK4.out HNE.out 24 (.int .i64 (-1)))
    have S5 : Hid (OwnRd (W3.setCell ⟨gs, 24, none⟩ (.int .i64 (-1))) 0 53 fdSig 19 (.slice (some ⟨gs, 0, none⟩) 2 capS) [exS1, tS 7]) := Lib.hid (HOS.out.setE (apt_fdSig (by decide)) (i := 1) (by show 1 < 2; decide) 5 (by decide) (.int .i64 (-1)) (tS 7) (fun cs ⟨vr, e1, ho⟩ => ⟨vr, by rw [e1]; rfl, ho⟩))
    have N5 := Lib.hid (HN3.out.setAt HD.out (by decide) (apt_fdNodeP (by decide) (by decide)) 24 (.int .i64 (-1)))
    have B5 := Lib.hid (below_set HB3.out HGS.out 24 (.int .i64 (-1)))
    go_upto_region 33 with fail
    clear c0 r0
    generalize W3.setCell ⟨gs, 24, none⟩ (.int .i64 (-1)) = W5 at *
    obtain ⟨C5, hC5e⟩ : ∃ C5, C5 = C := ⟨_, rfl⟩
    have C5E := Lib.hid (show C5 = (tM 7).cells (.slice (some ⟨gs, 0, none⟩) 2 capS) by rw [hC5e, HC.out]; rfl)
    rw [← hC5e] at K5
    clear hC5e
    obtain ⟨g5, cap5, he5, hgB5, hgl5, ⟨D5, hD5⟩, cs5, hcl5, hrd5, hrg5⟩ := N5.out.at0 (by decide) (i := 1) (by show 1 < 3; decide)
    simp only [Value.slice.injEq, Option.some.injEq, Addr.mk.injEq, and_true] at he5
    obtain ⟨rfl, -⟩ := he5
    obtain ⟨CM5, rfl⟩ := hrd5
    have f1 : W5.cell? ⟨g, 1, none⟩ = some (.iface 46 (.agg CM5)) := hrg5 0 _ rfl
    have r1 : W5.frozen? ⟨g, 1, none⟩ = false := Blk.free ⟨_, hD5⟩ 1
    have b5 : Blk W5 k4 C5 := ⟨_, K5.out⟩
    have hC5 : C5.size = 8 := by rw [C5E.out]; rfl
    have fM : fdMsg (W5.setCell ⟨g, 1, none⟩ (.iface 46 (.agg C5))) (tM 7) C5.toList := ⟨.slice (some ⟨gs, 0, none⟩) 2 capS, congrArg Array.toList C5E.out, S5.out.setAt hD5 (by decide) (apt_fdSig (by decide)) 1 _⟩
    have N6 := Lib.hid (node_set N5.out fM)
    have B6 := Lib.hid (below_set B5.out hgB 1 (.iface 46 (.agg C5)))
    clear hcl5 hrg5 hgB5 hgl5 fM hD5
    go_upto_region 34 with (refine wpList_loadS b5 46 (.tmp 4) huM (by rw [hC5]; exact msg_size) ?_)
    clear f1 r1 b5
    generalize W5.setCell ⟨g, 1, none⟩ (.iface 46 (.agg C5)) = W6 at *
    obtain ⟨a6, c6, e6, hs6⟩ := N6.out.shape
    simp only [Value.slice.injEq] at e6
    obtain ⟨rfl, -, rfl⟩ := e6
    have cF := CF.out (by decide) 3 rfl _ _ W6 (hs6.weak fun _ _ => fd_node) (HTU.out _ B6.out) (HPT.out _ B6.out)
    rw [file_bad (CN.out (by decide)), CN.out (by decide), if_neg (by decide)] at cF
    clear hs6
    go_wp2_with fail
    with_reducible refine cF.mono ?_
    rintro e w7 ⟨rfl, hb⟩
    have HB7 := Lib.hid (bstep B6.out hb (Nat.le_refl _))
    have cP := CPL.out w7 (HGT.out _ HB7.out)
    clear hb cF
    go_wp2_with fail
    with_reducible refine cP.mono ?_
    rintro e w8 ⟨rfl, hb⟩
    have HB8 := Lib.hid (bstep HB7.out hb (Nat.le_refl _))
    clear hb cP
    go_wp2_with fail
    go_ret
    exact ⟨rfl, HB8.out⟩
  · -- turn 8
    have c0 : W3.cell? ⟨gs, 25, none⟩ = some (.int .i64 8) := HR.out 6 (.int .i64 8) rfl
    have r0 := Blk.free ⟨_, HD.out⟩ 25
    have K5 := Lib.hid (setCell_ne HK4.out HNE.out 25 (.int .i64 2147483648))
    have S5 : Hid (OwnRd (W3.setCell ⟨gs, 25, none⟩ (.int .i64 2147483648)) 0 53 fdSig 19 (.slice (some ⟨gs, 0, none⟩) 2 capS) [exS1, tS 8]) := Lib.hid (HOS.out.setE (apt_fdSig (by decide)) (i := 1) (by show 1 < 2; decide) 6 (by decide) (.int .i64 2147483648) (tS 8) (fun cs ⟨vr, e1, ho⟩ => ⟨vr, by rw [e1]; rfl, ho⟩))
    have N5 := Lib.hid (HN3.out.setAt HD.out (by decide) (apt_fdNodeP (by decide) (by decide)) 25 (.int .i64 2147483648))
    have B5 := Lib.hid (below_set HB3.out HGS.out 25 (.int .i64 2147483648))
    go_upto_region 33 with fail
    clear c0 r0
    generalize W3.setCell ⟨gs, 25, none⟩ (.int .i64 2147483648) = W5 at *
    obtain ⟨C5, hC5e⟩ : ∃ C5, C5 = C := ⟨_, rfl⟩
    have C5E := Lib.hid (show C5 = (tM 8).cells (.slice (some ⟨gs, 0, none⟩) 2 capS) by rw [hC5e, HC.out]; rfl)
    rw [← hC5e] at K5
    clear hC5e
    obtain ⟨g5, cap5, he5, hgB5, hgl5, ⟨D5, hD5⟩, cs5, hcl5, hrd5, hrg5⟩ := N5.out.at0 (by decide) (i := 1) (by show 1 < 3; decide)
    simp only [Value.slice.injEq, Option.some.injEq, Addr.mk.injEq, and_true] at he5
    obtain ⟨rfl, -⟩ := he5
    obtain ⟨CM5, rfl⟩ := hrd5
    have f1 : W5.cell? ⟨g, 1, none⟩ = some (.iface 46 (.agg CM5)) := hrg5 0 _ rfl
    have r1 : W5.frozen? ⟨g, 1, none⟩ = false := Blk.free ⟨_, hD5⟩ 1
    have b5 : Blk W5 k4 C5 := ⟨_, K5.out⟩
    have hC5 : C5.size = 8 := by rw [C5E.out]; rfl
    have fM : fdMsg (W5.setCell ⟨g, 1, none⟩ (.iface 46 (.agg C5))) (tM 8) C5.toList := ⟨.slice (some ⟨gs, 0, none⟩) 2 capS, congrArg Array.toList C5E.out, S5.out.setAt hD5 (by decide) (apt_fdSig (by decide)) 1 _⟩
    have N6 := Lib.hid (node_set N5.out fM)
    have B6 := Lib.hid (below_set B5.out hgB 1 (.iface 46 (.agg C5)))
    clear hcl5 hrg5 hgB5 hgl5 fM hD5
    go_upto_region 34 with (refine wpList_loadS b5 46 (.tmp 4) huM (by rw [hC5]; exact msg_size) ?_)
    clear f1 r1 b5
    generalize W5.setCell ⟨g, 1, none⟩ (.iface 46 (.agg C5)) = W6 at *
    obtain ⟨a6, c6, e6, hs6⟩ := N6.out.shape
    simp only [Value.slice.injEq] at e6
    obtain ⟨rfl, -, rfl⟩ := e6
    have cF := CF.out (by decide) 3 rfl _ _ W6 (hs6.weak fun _ _ => fd_node) (HTU.out _ B6.out) (HPT.out _ B6.out)
    rw [file_bad (CN.out (by decide)), CN.out (by decide), if_neg (by decide)] at cF
    clear hs6
    go_wp2_with fail
    with_reducible refine cF.mono ?_
    rintro e w7 ⟨rfl, hb⟩
    have HB7 := Lib.hid (bstep B6.out hb (Nat.le_refl _))
    have cP := CPL.out w7 (HGT.out _ HB7.out)
    clear hb cF
    go_wp2_with fail
    with_reducible refine cP.mono ?_
    rintro e w8 ⟨rfl, hb⟩
    have HB8 := Lib.hid (bstep HB7.out hb (Nat.le_refl _))
    clear hb cP
    go_wp2_with fail
    go_ret
    exact ⟨rfl, HB8.out⟩
  · -- turn 9
    have c0 := Blk.cell ⟨_, HK4.out⟩ 5 (.int .i64 2) (by rw [HC.out]; rfl)
    have r0 := Blk.free ⟨_, HK4.out⟩ 5
    have K5 := Lib.hid (setCell_at HK4.out 5 (.int .i64 (-1)))
    have S5 : Hid (OwnRd _ 0 53 fdSig 19 (.slice (some ⟨gs, 0, none⟩) 2 capS) [exS1, exS2]) := Lib.hid (HOS.out.setAt HK4.out (by decide) (apt_fdSig (by decide)) 5 (.int .i64 (-1)))
    have N5 := Lib.hid (HN3.out.setAt HK4.out (by decide) (apt_fdNodeP (by decide) (by decide)) 5 (.int .i64 (-1)))
    have B5 := Lib.hid (below_set HB3.out hk4 5 (.int .i64 (-1)))
    go_upto_region 33 with fail
    clear c0 r0
    generalize W3.setCell ⟨k4, 5, none⟩ (.int .i64 (-1)) = W5 at *
    obtain ⟨C5, hC5e⟩ : ∃ C5, C5 = C.setIfInBounds 5 (.int .i64 (-1)) := ⟨_, rfl⟩
    have C5E := Lib.hid (show C5 = (tM 9).cells (.slice (some ⟨gs, 0, none⟩) 2 capS) by rw [hC5e, HC.out]; rfl)
    rw [← hC5e] at K5
    clear hC5e
    obtain ⟨g5, cap5, he5, hgB5, hgl5, ⟨D5, hD5⟩, cs5, hcl5, hrd5, hrg5⟩ := N5.out.at0 (by decide) (i := 1) (by show 1 < 3; decide)
    simp only [Value.slice.injEq, Option.some.injEq, Addr.mk.injEq, and_true] at he5
    obtain ⟨rfl, -⟩ := he5
    obtain ⟨CM5, rfl⟩ := hrd5
    have f1 : W5.cell? ⟨g, 1, none⟩ = some (.iface 46 (.agg CM5)) := hrg5 0 _ rfl
    have r1 : W5.frozen? ⟨g, 1, none⟩ = false := Blk.free ⟨_, hD5⟩ 1
    have b5 : Blk W5 k4 C5 := ⟨_, K5.out⟩
    have hC5 : C5.size = 8 := by rw [C5E.out]; rfl
    have fM : fdMsg (W5.setCell ⟨g, 1, none⟩ (.iface 46 (.agg C5))) (tM 9) C5.toList := ⟨.slice (some ⟨gs, 0, none⟩) 2 capS, congrArg Array.toList C5E.out, S5.out.setAt hD5 (by decide) (apt_fdSig (by decide)) 1 _⟩
    have N6 := Lib.hid (node_set N5.out fM)
    have B6 := Lib.hid (below_set B5.out hgB 1 (.iface 46 (.agg C5)))
    clear hcl5 hrg5 hgB5 hgl5 fM hD5
    go_upto_region 34 with (refine wpList_loadS b5 46 (.tmp 4) huM (by rw [hC5]; exact msg_size) ?_)
    clear f1 r1 b5
    generalize W5.setCell ⟨g, 1, none⟩ (.iface 46 (.agg C5)) = W6 at *
    obtain ⟨a6, c6, e6, hs6⟩ := N6.out.shape
    simp only [Value.slice.injEq] at e6
    obtain ⟨rfl, -, rfl⟩ := e6
    have cF := CF.out (by decide) 3 rfl _ _ W6 (hs6.weak fun _ _ => fd_node) (HTU.out _ B6.out) (HPT.out _ B6.out)
    rw [file_bad (CN.out (by decide)), CN.out (by decide), if_neg (by decide)] at cF
    clear hs6
    go_wp2_with fail
    with_reducible refine cF.mono ?_
    rintro e w7 ⟨rfl, hb⟩
    have HB7 := Lib.hid (bstep B6.out hb (Nat.le_refl _))
    have cP := CPL.out w7 (HGT.out _ HB7.out)
    clear hb cF
    go_wp2_with fail
    with_reducible refine cP.mono ?_
    rintro e w8 ⟨rfl, hb⟩
    have HB8 := Lib.hid (bstep HB7.out hb (Nat.le_refl _))
    clear hb cP
    go_wp2_with fail
    go_ret
    exact ⟨rfl, HB8.out⟩
  · -- turn 10
    have c0 := Blk.cell ⟨_, HK4.out⟩ 6 (.string ⟨#[65]⟩) (by rw [HC.out]; rfl)
    have r0 := Blk.free ⟨_, HK4.out⟩ 6
    have K5 := Lib.hid (setCell_at HK4.out 6 (.string ⟨#[49]⟩))
    have S5 : Hid (OwnRd _ 0 53 fdSig 19 (.slice (some ⟨gs, 0, none⟩) 2 capS) [exS1, exS2]) := Lib.hid (HOS.out.setAt HK4.out (by decide) (apt_fdSig (by decide)) 6 (.string ⟨#[49]⟩))
    have N5 := Lib.hid (HN3.out.setAt HK4.out (by decide) (apt_fdNodeP (by decide) (by decide)) 6 (.string ⟨#[49]⟩))
    have B5 := Lib.hid (below_set HB3.out hk4 6 (.string ⟨#[49]⟩))
    go_upto_region 33 with fail
    clear c0 r0
    generalize W3.setCell ⟨k4, 6, none⟩ (.string ⟨#[49]⟩) = W5 at *
    obtain ⟨C5, hC5e⟩ : ∃ C5, C5 = C.setIfInBounds 6 (.string ⟨#[49]⟩) := ⟨_, rfl⟩
    have C5E := Lib.hid (show C5 = (tM 10).cells (.slice (some ⟨gs, 0, none⟩) 2 capS) by rw [hC5e, HC.out]; rfl)
    rw [← hC5e] at K5
    clear hC5e
    obtain ⟨g5, cap5, he5, hgB5, hgl5, ⟨D5, hD5⟩, cs5, hcl5, hrd5, hrg5⟩ := N5.out.at0 (by decide) (i := 1) (by show 1 < 3; decide)
    simp only [Value.slice.injEq, Option.some.injEq, Addr.mk.injEq, and_true] at he5
    obtain ⟨rfl, -⟩ := he5
    obtain ⟨CM5, rfl⟩ := hrd5
    have f1 : W5.cell? ⟨g, 1, none⟩ = some (.iface 46 (.agg CM5)) := hrg5 0 _ rfl
    have r1 : W5.frozen? ⟨g, 1, none⟩ = false := Blk.free ⟨_, hD5⟩ 1
    have b5 : Blk W5 k4 C5 := ⟨_, K5.out⟩
    have hC5 : C5.size = 8 := by rw [C5E.out]; rfl
    have fM : fdMsg (W5.setCell ⟨g, 1, none⟩ (.iface 46 (.agg C5))) (tM 10) C5.toList := ⟨.slice (some ⟨gs, 0, none⟩) 2 capS, congrArg Array.toList C5E.out, S5.out.setAt hD5 (by decide) (apt_fdSig (by decide)) 1 _⟩
    have N6 := Lib.hid (node_set N5.out fM)
    have B6 := Lib.hid (below_set B5.out hgB 1 (.iface 46 (.agg C5)))
    clear hcl5 hrg5 hgB5 hgl5 fM hD5
    go_upto_region 34 with (refine wpList_loadS b5 46 (.tmp 4) huM (by rw [hC5]; exact msg_size) ?_)
    clear f1 r1 b5
    generalize W5.setCell ⟨g, 1, none⟩ (.iface 46 (.agg C5)) = W6 at *
    obtain ⟨a6, c6, e6, hs6⟩ := N6.out.shape
    simp only [Value.slice.injEq] at e6
    obtain ⟨rfl, -, rfl⟩ := e6
    have cF := CF.out (by decide) 3 rfl _ _ W6 (hs6.weak fun _ _ => fd_node) (HTU.out _ B6.out) (HPT.out _ B6.out)
    rw [file_bad (CN.out (by decide)), CN.out (by decide), if_neg (by decide)] at cF
    clear hs6
    go_wp2_with fail
    with_reducible refine cF.mono ?_
    rintro e w7 ⟨rfl, hb⟩
    have HB7 := Lib.hid (bstep B6.out hb (Nat.le_refl _))
    have cP := CPL.out w7 (HGT.out _ HB7.out)
    clear hb cF
    go_wp2_with fail
    with_reducible refine cP.mono ?_
    rintro e w8 ⟨rfl, hb⟩
    have HB8 := Lib.hid (bstep HB7.out hb (Nat.le_refl _))
    clear hb cP
    go_wp2_with fail
    go_ret
    exact ⟨rfl, HB8.out⟩
  · -- turn 11
    have c0 : W3.cell? ⟨gs, 32, none⟩ = some (.int .i64 (-104)) := HR.out 13 (.int .i64 (-104)) rfl
    have c1 : W3.cell? ⟨gs, 33, none⟩ = some (.int .i64 1) := HR.out 14 (.int .i64 1) rfl
    have r0 := Blk.free ⟨_, HD.out⟩ 32
    have r1 := Blk.free ⟨_, HD.out⟩ 33
    have HD2 := setCell_at HD.out 32 (.int .i64 2)
    have K5 := Lib.hid (setCell_ne (setCell_ne HK4.out HNE.out 32 (.int .i64 2)) HNE.out 33 (.int .i64 4))
    have S4 : OwnRd (W3.setCell ⟨gs, 32, none⟩ (.int .i64 2)) 0 53 fdSig 19 (.slice (some ⟨gs, 0, none⟩) 2 capS) [exS1, ⟨{ exS2.d with mn := 2 }, exS2.rs⟩] := HOS.out.setE (apt_fdSig (by decide)) (i := 1) (by show 1 < 2; decide) 13 (by decide) (.int .i64 2) ⟨{ exS2.d with mn := 2 }, exS2.rs⟩ (fun cs ⟨vr, e1, ho⟩ => ⟨vr, by rw [e1]; rfl, ho⟩)
    have S5 : Hid (OwnRd ((W3.setCell ⟨gs, 32, none⟩ (.int .i64 2)).setCell ⟨gs, 33, none⟩ (.int .i64 4)) 0 53 fdSig 19 (.slice (some ⟨gs, 0, none⟩) 2 capS) [exS1, tS 11]) := Lib.hid (S4.setE (apt_fdSig (by decide)) (i := 1) (by show 1 < 2; decide) 14 (by decide) (.int .i64 4) (tS 11) (fun cs ⟨vr, e1, ho⟩ => ⟨vr, by rw [e1]; rfl, ho⟩))
    have N5 := Lib.hid ((HN3.out.setAt HD.out (by decide) (apt_fdNodeP (by decide) (by decide)) 32 (.int .i64 2)).setAt HD2 (by decide) (apt_fdNodeP (by decide) (by decide)) 33 (.int .i64 4))
    have B5 := Lib.hid (below_set (below_set HB3.out HGS.out 32 (.int .i64 2)) HGS.out 33 (.int .i64 4))
    clear HD2 S4
    go_upto_region 33 with fail
    clear c0 r0 c1 r1
    generalize (W3.setCell ⟨gs, 32, none⟩ (.int .i64 2)).setCell ⟨gs, 33, none⟩ (.int .i64 4) = W5 at *
    obtain ⟨C5, hC5e⟩ : ∃ C5, C5 = C := ⟨_, rfl⟩
    have C5E := Lib.hid (show C5 = (tM 11).cells (.slice (some ⟨gs, 0, none⟩) 2 capS) by rw [hC5e, HC.out]; rfl)
    rw [← hC5e] at K5
    clear hC5e
    obtain ⟨g5, cap5, he5, hgB5, hgl5, ⟨D5, hD5⟩, cs5, hcl5, hrd5, hrg5⟩ := N5.out.at0 (by decide) (i := 1) (by show 1 < 3; decide)
    simp only [Value.slice.injEq, Option.some.injEq, Addr.mk.injEq, and_true] at he5
    obtain ⟨rfl, -⟩ := he5
    obtain ⟨CM5, rfl⟩ := hrd5
    have f1 : W5.cell? ⟨g, 1, none⟩ = some (.iface 46 (.agg CM5)) := hrg5 0 _ rfl
    have r1 : W5.frozen? ⟨g, 1, none⟩ = false := Blk.free ⟨_, hD5⟩ 1
    have b5 : Blk W5 k4 C5 := ⟨_, K5.out⟩
    have hC5 : C5.size = 8 := by rw [C5E.out]; rfl
    have fM : fdMsg (W5.setCell ⟨g, 1, none⟩ (.iface 46 (.agg C5))) (tM 11) C5.toList := ⟨.slice (some ⟨gs, 0, none⟩) 2 capS, congrArg Array.toList C5E.out, S5.out.setAt hD5 (by decide) (apt_fdSig (by decide)) 1 _⟩
    have N6 := Lib.hid (node_set N5.out fM)
    have B6 := Lib.hid (below_set B5.out hgB 1 (.iface 46 (.agg C5)))
    clear hcl5 hrg5 hgB5 hgl5 fM hD5
    go_upto_region 34 with (refine wpList_loadS b5 46 (.tmp 4) huM (by rw [hC5]; exact msg_size) ?_)
    clear f1 r1 b5
    generalize W5.setCell ⟨g, 1, none⟩ (.iface 46 (.agg C5)) = W6 at *
    obtain ⟨a6, c6, e6, hs6⟩ := N6.out.shape
    simp only [Value.slice.injEq] at e6
    obtain ⟨rfl, -, rfl⟩ := e6
    have cF := CF.out (by decide) 3 rfl _ _ W6 (hs6.weak fun _ _ => fd_node) (HTU.out _ B6.out) (HPT.out _ B6.out)
    rw [file_bad (CN.out (by decide)), CN.out (by decide), if_neg (by decide)] at cF
    clear hs6
    go_wp2_with fail
    with_reducible refine cF.mono ?_
    rintro e w7 ⟨rfl, hb⟩
    have HB7 := Lib.hid (bstep B6.out hb (Nat.le_refl _))
    have cP := CPL.out w7 (HGT.out _ HB7.out)
    clear hb cF
    go_wp2_with fail
    with_reducible refine cP.mono ?_
    rintro e w8 ⟨rfl, hb⟩
    have HB8 := Lib.hid (bstep HB7.out hb (Nat.le_refl _))
    clear hb cP
    go_wp2_with fail
    go_ret
    exact ⟨rfl, HB8.out⟩
  · -- turn 12
    have c0 : (W3.alloc (.cells #[.string ⟨#[65]⟩, .string ⟨#[83, 71, 95]⟩] 9)).cell? ⟨gs, 37, none⟩ = some vr := cell_keep' (HR.out 18 _ rfl) ((Below.refl _ _).alloc (Nat.le_refl _) _)
    have hb4 : Below W3.heap.size W3 (W3.alloc (.cells #[.string ⟨#[65]⟩, .string ⟨#[83, 71, 95]⟩] 9)) := (Below.refl _ _).alloc (Nat.le_refl _) _
    have HD4 := Blk.kindAt HD.out hb4
    have r0 := Blk.free ⟨_, HD4⟩ 37
    have oX := Owns.lit W3 0 enTx 1 (fun _ => rfl) [[65], [83, 71, 95]] #[.string ⟨#[65]⟩, .string ⟨#[83, 71, 95]⟩] 9 2 rfl rfl (by decide) (Nat.zero_le _)
    have K5 := Lib.hid (setCell_ne (Blk.kindAt HK4.out hb4) HNE.out 37 (.slice (some ⟨W3.heap.size, 0, none⟩) 2 2))
    have S5 : Hid (OwnRd ((W3.alloc (.cells #[.string ⟨#[65]⟩, .string ⟨#[83, 71, 95]⟩] 9)).setCell ⟨gs, 37, none⟩ (.slice (some ⟨W3.heap.size, 0, none⟩) 2 2)) 0 53 fdSig 19 (.slice (some ⟨gs, 0, none⟩) 2 capS) [exS1, tS 12]) := Lib.hid ((HOS.out.keep last_fdSig hb4).setE (apt_fdSig (by decide)) (i := 1) (by show 1 < 2; decide) 18 (by decide) (.slice (some ⟨W3.heap.size, 0, none⟩) 2 2) (tS 12) (fun cs ⟨vr, e1, ho⟩ => ⟨.slice (some ⟨W3.heap.size, 0, none⟩) 2 2, by rw [e1]; rfl, oX.setAt HD4 (by decide) 37 _⟩))
    have N5 := Lib.hid ((HN3.out.keep last_fdNodeP hb4).setAt HD4 (by decide) (apt_fdNodeP (by decide) (by decide)) 37 (.slice (some ⟨W3.heap.size, 0, none⟩) 2 2))
    have B5 := Lib.hid (below_set (bstep HB3.out hb4 (Nat.le_refl _)) HGS.out 37 (.slice (some ⟨W3.heap.size, 0, none⟩) 2 2))
    clear HD4 hb4 oX
    go_upto_region 33 with fail
    clear c0 r0
    generalize (W3.alloc (.cells #[.string ⟨#[65]⟩, .string ⟨#[83, 71, 95]⟩] 9)).setCell ⟨gs, 37, none⟩ (.slice (some ⟨W3.heap.size, 0, none⟩) 2 2) = W5 at *
    obtain ⟨C5, hC5e⟩ : ∃ C5, C5 = C := ⟨_, rfl⟩
    have C5E := Lib.hid (show C5 = (tM 12).cells (.slice (some ⟨gs, 0, none⟩) 2 capS) by rw [hC5e, HC.out]; rfl)
    rw [← hC5e] at K5
    clear hC5e
    obtain ⟨g5, cap5, he5, hgB5, hgl5, ⟨D5, hD5⟩, cs5, hcl5, hrd5, hrg5⟩ := N5.out.at0 (by decide) (i := 1) (by show 1 < 3; decide)
    simp only [Value.slice.injEq, Option.some.injEq, Addr.mk.injEq, and_true] at he5
    obtain ⟨rfl, -⟩ := he5
    obtain ⟨CM5, rfl⟩ := hrd5
    have f1 : W5.cell? ⟨g, 1, none⟩ = some (.iface 46 (.agg CM5)) := hrg5 0 _ rfl
    have r1 : W5.frozen? ⟨g, 1, none⟩ = false := Blk.free ⟨_, hD5⟩ 1
    have b5 : Blk W5 k4 C5 := ⟨_, K5.out⟩
    have hC5 : C5.size = 8 := by rw [C5E.out]; rfl
    have fM : fdMsg (W5.setCell ⟨g, 1, none⟩ (.iface 46 (.agg C5))) (tM 12) C5.toList := ⟨.slice (some ⟨gs, 0, none⟩) 2 capS, congrArg Array.toList C5E.out, S5.out.setAt hD5 (by decide) (apt_fdSig (by decide)) 1 _⟩
    have N6 := Lib.hid (node_set N5.out fM)
    have B6 := Lib.hid (below_set B5.out hgB 1 (.iface 46 (.agg C5)))
    clear hcl5 hrg5 hgB5 hgl5 fM hD5
    go_upto_region 34 with (refine wpList_loadS b5 46 (.tmp 4) huM (by rw [hC5]; exact msg_size) ?_)
    clear f1 r1 b5
    generalize W5.setCell ⟨g, 1, none⟩ (.iface 46 (.agg C5)) = W6 at *
    obtain ⟨a6, c6, e6, hs6⟩ := N6.out.shape
    simp only [Value.slice.injEq] at e6
    obtain ⟨rfl, -, rfl⟩ := e6
    have cF := CF.out (by decide) 3 rfl _ _ W6 (hs6.weak fun _ _ => fd_node) (HTU.out _ B6.out) (HPT.out _ B6.out)
    rw [file_bad (CN.out (by decide)), CN.out (by decide), if_neg (by decide)] at cF
    clear hs6
    go_wp2_with fail
    with_reducible refine cF.mono ?_
    rintro e w7 ⟨rfl, hb⟩
    have HB7 := Lib.hid (bstep B6.out hb (Nat.le_refl _))
    have cP := CPL.out w7 (HGT.out _ HB7.out)
    clear hb cF
    go_wp2_with fail
    with_reducible refine cP.mono ?_
    rintro e w8 ⟨rfl, hb⟩
    have HB8 := Lib.hid (bstep HB7.out hb (Nat.le_refl _))
    clear hb cP
    go_wp2_with fail
    go_ret
    exact ⟨rfl, HB8.out⟩
  · -- turn 13
    have c0 : W3.cell? ⟨gs, 21, none⟩ = some (.string ⟨#[121]⟩) := HR.out 2 (.string ⟨#[121]⟩) rfl
    have r0 := Blk.free ⟨_, HD.out⟩ 21
    have K5 := Lib.hid (setCell_ne HK4.out HNE.out 21 (.string ⟨#[67, 77, 95]⟩))
    have S5 : Hid (OwnRd (W3.setCell ⟨gs, 21, none⟩ (.string ⟨#[67, 77, 95]⟩)) 0 53 fdSig 19 (.slice (some ⟨gs, 0, none⟩) 2 capS) [exS1, tS 13]) := Lib.hid (HOS.out.setE (apt_fdSig (by decide)) (i := 1) (by show 1 < 2; decide) 2 (by decide) (.string ⟨#[67, 77, 95]⟩) (tS 13) (fun cs ⟨vr, e1, ho⟩ => ⟨vr, by rw [e1]; rfl, ho⟩))
    have N5 := Lib.hid (HN3.out.setAt HD.out (by decide) (apt_fdNodeP (by decide) (by decide)) 21 (.string ⟨#[67, 77, 95]⟩))
    have B5 := Lib.hid (below_set HB3.out HGS.out 21 (.string ⟨#[67, 77, 95]⟩))
    go_upto_region 33 with fail
    clear c0 r0
    generalize W3.setCell ⟨gs, 21, none⟩ (.string ⟨#[67, 77, 95]⟩) = W5 at *
    obtain ⟨C5, hC5e⟩ : ∃ C5, C5 = C := ⟨_, rfl⟩
    have C5E := Lib.hid (show C5 = (tM 13).cells (.slice (some ⟨gs, 0, none⟩) 2 capS) by rw [hC5e, HC.out]; rfl)
    rw [← hC5e] at K5
    clear hC5e
    obtain ⟨g5, cap5, he5, hgB5, hgl5, ⟨D5, hD5⟩, cs5, hcl5, hrd5, hrg5⟩ := N5.out.at0 (by decide) (i := 1) (by show 1 < 3; decide)
    simp only [Value.slice.injEq, Option.some.injEq, Addr.mk.injEq, and_true] at he5
    obtain ⟨rfl, -⟩ := he5
    obtain ⟨CM5, rfl⟩ := hrd5
    have f1 : W5.cell? ⟨g, 1, none⟩ = some (.iface 46 (.agg CM5)) := hrg5 0 _ rfl
    have r1 : W5.frozen? ⟨g, 1, none⟩ = false := Blk.free ⟨_, hD5⟩ 1
    have b5 : Blk W5 k4 C5 := ⟨_, K5.out⟩
    have hC5 : C5.size = 8 := by rw [C5E.out]; rfl
    have fM : fdMsg (W5.setCell ⟨g, 1, none⟩ (.iface 46 (.agg C5))) (tM 13) C5.toList := ⟨.slice (some ⟨gs, 0, none⟩) 2 capS, congrArg Array.toList C5E.out, S5.out.setAt hD5 (by decide) (apt_fdSig (by decide)) 1 _⟩
    have N6 := Lib.hid (node_set N5.out fM)
    have B6 := Lib.hid (below_set B5.out hgB 1 (.iface 46 (.agg C5)))
    clear hcl5 hrg5 hgB5 hgl5 fM hD5
    go_upto_region 34 with (refine wpList_loadS b5 46 (.tmp 4) huM (by rw [hC5]; exact msg_size) ?_)
    clear f1 r1 b5
    generalize W5.setCell ⟨g, 1, none⟩ (.iface 46 (.agg C5)) = W6 at *
    obtain ⟨a6, c6, e6, hs6⟩ := N6.out.shape
    simp only [Value.slice.injEq] at e6
    obtain ⟨rfl, -, rfl⟩ := e6
    have cF := CF.out (by decide) 3 rfl _ _ W6 (hs6.weak fun _ _ => fd_node) (HTU.out _ B6.out) (HPT.out _ B6.out)
    rw [file_bad (CN.out (by decide)), CN.out (by decide), if_neg (by decide)] at cF
    clear hs6
    go_wp2_with fail
    with_reducible refine cF.mono ?_
    rintro e w7 ⟨rfl, hb⟩
    have HB7 := Lib.hid (bstep B6.out hb (Nat.le_refl _))
    have cP := CPL.out w7 (HGT.out _ HB7.out)
    clear hb cF
    go_wp2_with fail
    with_reducible refine cP.mono ?_
    rintro e w8 ⟨rfl, hb⟩
    have HB8 := Lib.hid (bstep HB7.out hb (Nat.le_refl _))
    clear hb cP
    go_wp2_with fail
    go_ret
    exact ⟨rfl, HB8.out⟩
end Go.Proofs.YtampdbkafkcfdaaGreatDoor

namespace Go.Proofs.YtampdbkafkcfdaaGreatDoor
set_option linter.unusedVariables false
open Go.RowKit

/-- the elder list stays: at the cells' level -/
theorem sl_grew {α : Type} {en : α → List Value} {size : Nat} (hen : ∀ x, (en x).length = size) {w w1 : World} {base : Nat} {e : TypeId} {v v' : Value} {xs ys : List α} {a : Option Addr} {n c : Nat} (hv : v = .slice a n c) (h : Owns w base e size en v xs) (h' : Owns w1 base e size en v' (xs ++ ys)) (hg : Grew w w1 v v') : SlOf w1 en size a c xs := by
  subst hv
  rcases hg with ⟨g, m, cap, h1, rfl⟩ | ⟨h1, -⟩
  · simp only [Value.slice.injEq] at h1
    obtain ⟨rfl, rfl, rfl⟩ := h1
    exact h'.sl.2.pre hen
  · exact h.sl.2.keep (B := w.heap.size) ⟨h1.os, h1.tape, h1.output, h1.size, fun k hk => h1.block k hk (by simp)⟩ (Nat.le_refl _)

/-- 'append(out, y)', the elder list read as before -/
theorem wpList_append_rd2 {α : Type} {rd : World → α → List Value → Prop} (hl : Lasts rd) {P : Program} {w0 wr : World} {ops : Array Oper} {rest : List Oper} {o : Oper} {a : Act} {Q : Exit → Act → World → Prop} {s x : Operand}
    {t e : TypeId} {size bytes : Nat} (T : SlTy P t e size bytes) {base : Nat} {ad : Option Addr} {n c : Nat} (xs : List α) (y : α) {cells : Array Value} {ty : TypeId}
    (hown : OwnRd wr base e rd size (.slice ad n c) xs) (hbel : Below base w0 wr) (hbase : base ≤ w0.heap.size) (hbound : (xs.length + 1) * bytes ≤ 140737488355328)
    (hrd : rd wr y cells.toList) (hsz : cells.size = size) (h1 : cells.all (·.oneCell') = true)
    (hap : Apt rd e)
    (h : ∀ v' w1, OwnRd w1 base e rd size v' (xs ++ [y]) → Below base w0 w1 → wr.grownBy w1 (Value.slice ad n c).ownBlock → SlRd w1 rd size ad c xs → wpList P ops Q rest (a.put o.dst v') w1)
    (hgd : o.guard = none := by rfl) (ho : o.op = .call { callee := .builtin .append, args := #[s, x], argTypes := #[t, t] } := by rfl)
    (hs : a.eval s = .slice ad n c := by rfl) (hx : a.eval x = .slice (some ⟨wr.heap.size, 0, none⟩) 1 1 := by rfl) :
    wpList P ops Q (o :: rest) a (wr.alloc (.cells cells ty)) := by
  obtain ⟨rows, hr1, hr2⟩ := hown
  have hlen := hr2.len
  have hcl : cells.toList.length = size := by rw [Array.length_toList, hsz]
  refine wpList_append_elem4 (en := Row.en) T rows (⟨cells.toList, hcl⟩ : Row size) hr1 hbel hbase (by rw [← hlen]; exact hbound) ?_ hgd ho hs hx rfl hcl
    (fun u hu => (Array.all_eq_true_iff_forall_mem.1 h1) u (Array.mem_toList_iff.1 hu))
  intro v' w1 ho1 hb1 hg _ hgr
  have hk : ∀ z cs, rd wr z cs → rd w1 z cs := fun z cs hz => rd_grown hr1 hg hl hap hz
  exact h v' w1 ⟨_, ho1, (hr2.mono fun z r hz => hk z _ hz).snoc (hk y _ hrd)⟩ hb1 hg ⟨rows, sl_grew Row.en_len rfl hr1 ho1 hgr, hr2.mono fun z r hz => hk z _ hz⟩

/-- a whole struct loaded, in a region that draws -/
theorem yields_loadS {P : Program} {ops : Array Oper} {S : World → Prop} {o : Oper} {a : Act} {k : Nat} {cs : Array Value} (hS : ∀ w, S w → Blk w k cs) (ty : TypeId) (x : Operand) {d : TypeDesc}
    (hu : P.underlying ty = some d) (hi : (P.info? ty).map (·.size) = some cs.size)
    (hgd : o.guard = none := by rfl) (ho : o.op = .load ty x := by rfl) (hx : a.eval x = .pointer (some ⟨k, 0, none⟩) := by rfl) (hd : d.isRow = true := by rfl) : YieldsIf P ops S o (.agg cs) a := by
  refine .inl ⟨by simp [Region.wanted, hgd], fun w hw => ?_⟩
  unfold execOp
  simp only [ho, hx, Instr.loadAt, Instr.sureAddr, Sem.run_bind, Sem.run_pure, Result.andThen_ok, run_loadS (hS w hw) ty d hu hd hi]

/-! ### the tables' lengths -/
theorem rep_flat {α β : Type} (f : α → List β) (x : α) : ∀ n, ((List.replicate n x).flatMap f).length = n * (f x).length
  | 0 => by simp
  | n + 1 => by
    rw [List.replicate_succ, List.flatMap_cons, List.length_append, rep_flat f x n, Nat.add_mul]
    omega
theorem row_ok : rowB (0, liA) = true := by kernel_rfl
theorem row_len : (rowT (0, liA)).length = 1029 := by kernel_rfl
theorem tabT_li (r : List (Int × List UInt8)) : tabT (liT r) = [86, 65, 76, 95, 32] ++ (numT 0 false ++ ([32] ++ ([120] ++ (r.flatMap rowT ++ [32, 59])))) := rfl
theorem tabB_li (r : List (Int × List UInt8)) : tabB (liT r) = (numB 0 && (wordB [120] && (decide (r.length ≤ 256) && r.all rowB))) := rfl
theorem dbB_li (ms : List MsgD) (ts : List TabD) : dbB (liD ms ts) = ((!false || verB ⟨0, 0, []⟩) && (staB liSta && (decide (ms.length ≤ 512) && (ms.all msgB && ts.all tabB)))) := rfl
theorem dbT_li (ts : List TabD) : dbT (liD [] ts) = dbHead (liD [] []) ++ ([] ++ ((if ts.isEmpty then [] else [10]) ++ ts.flatMap fun t => tabT t ++ [10])) := rfl
theorem num_len : (numT 0 false).length = 1 := by kernel_rfl
theorem num_ok : numB 0 = true := by kernel_rfl
theorem wd_ok : wordB [120] = true := by kernel_rfl
theorem sta_ok : staB liSta = true := by kernel_rfl
theorem hd_len : (dbHead (liD [] [])).length = 5 := by kernel_rfl
theorem tab_len' (r : List (Int × List UInt8)) (n : Nat) (h : (r.flatMap rowT).length = n) : (tabT (liT r)).length = n + 10 := by
  rw [tabT_li]
  simp only [List.length_append, h, num_len, List.length_cons, List.length_nil]
  omega
theorem lirows_len (n : Nat) : ((List.replicate n ((0 : Int), liA)).flatMap rowT).length = n * 1029 := by
  rw [rep_flat, row_len]
theorem tab_len : (tabT (liT liR)).length = 263434 := tab_len' _ _ (lirows_len 256)
theorem tab_ok' (n : Nat) (h : n ≤ 256) : tabB (liT (List.replicate n (0, liA))) = true := by
  rw [tabB_li, List.length_replicate, List.all_replicate, row_ok, num_ok, wd_ok, decide_eq_true h]
  simp
theorem tab_ok : tabB (liT liR) = true := tab_ok' 256 (Nat.le_refl _)
theorem tab_more' (r : List (Int × List UInt8)) (h : ¬ r.length ≤ 256) : tabB (liT r) = false := by
  rw [tabB_li, decide_eq_false h, Bool.false_and, Bool.and_false, Bool.and_false]
theorem more_len (n : Nat) (x : Int × List UInt8) : (List.replicate n ((0 : Int), liA) ++ [x]).length = n + 1 := by
  rw [List.length_append, List.length_replicate]
  rfl
theorem tab_more : tabB (liT (liR ++ [(0, [])])) = false := tab_more' _ (by rw [more_len]; decide)
theorem li_doc (T : TabD) (hT : tabB T = true) (N : Nat) (hN : (tabT T).length = N) (n : Nat) : dbB (liD [] (List.replicate n T)) = true ∧ (n ≠ 0 → (dbT (liD [] (List.replicate n T))).length = 6 + n * (N + 1)) := by
  refine ⟨?_, fun hn => ?_⟩
  · rw [dbB_li, List.all_replicate, hT, sta_ok]
    simp
  · have e2 : (List.replicate n T).isEmpty = false := by
      cases n with
      | zero => exact absurd rfl hn
      | succ n => rfl
    rw [dbT_li, e2]
    simp only [List.length_append, rep_flat, hd_len, hN, Bool.false_eq_true, if_false, List.length_cons, List.length_nil, Nat.zero_add]
    omega
theorem li_three : filN (liD [] (List.replicate 3 (liT liR))) = 0 := by
  obtain ⟨h1, h2⟩ := li_doc _ tab_ok _ tab_len 3
  exact (fil_good _ h1 (by rw [h2 (by decide)]; decide)).1
theorem li_four : filN (liD [] (List.replicate 4 (liT liR))) = 5 := by
  obtain ⟨h1, h2⟩ := li_doc _ tab_ok _ tab_len 4
  exact (fil_long _ h1 (by rw [h2 (by decide)]; decide)).1
theorem li_rows' (T : TabD) (hT : tabB T = false) : filN (liD [] [T]) = 4 := by
  refine (fil_bad _ ?_).1
  rw [dbB_li, List.all_cons, hT]
  simp
theorem li_rows : filN (liD [] [liT (liR ++ [(0, [])])]) = 4 := li_rows' _ tab_more
end Go.Proofs.YtampdbkafkcfdaaGreatDoor

namespace Go.Proofs.YtampdbkafkcfdaaGreatDoor
set_option linter.unusedVariables false
open Go.RowKit

theorem msgs_nod (n : Nat) (m : MsgD) : NodeD.sta liSta :: List.replicate n (NodeD.msg m) = nodL (liD (List.replicate n m) []) := by
  rw [liD_nod, List.map_replicate]
  simp
theorem fil_em4 {y : DbD} (h : filN y = 4) : filT y = [] := by
  unfold filT
  rw [if_neg (by rw [h]; decide)]
def stL : Value → Nat
  | .string b => b.size
  | _ => 0
theorem fil_em {y : DbD} {n : Nat} (h : filN y = n) (hn : n ≠ 0) : filT y = [] := by
  unfold filT
  rw [if_neg (by rw [h]; exact hn)]
theorem fil_txt {y : DbD} (h : filN y = 0) : filT y = dbT y := by
  unfold filT
  rw [if_pos h]

theorem SlRd.setC {α : Type} {rd : World → α → List Value → Prop} {w : World} {size : Nat} {a : Option Addr} {cap : Nat} {xs : List α} {T : TypeId} (h : SlRd w rd size a cap xs) (ha : Apt rd T) {k : Nat} {C : Array Value} (hk : w.heap[k]? = some (.cells C T)) (hne : ∀ b o, a = some ⟨b, o, none⟩ → b ≠ k) (j : Nat) (v : Value) : SlRd (w.setCell ⟨k, j, none⟩ v) rd size a cap xs := by
  obtain ⟨rows, h1, h2⟩ := h
  exact ⟨rows, h1.of_block fun b o e => Below.heap_setCell _ _ _ _ (Ne.symm (Ne.symm (hne b o e))), h2.mono fun x r hr => ha _ _ _ _ _ _ _ hr hk (by simp [World.setCell]) (fun b _ hn => Below.heap_setCell _ _ _ _ hn)⟩
theorem SlRd.under {α : Type} {rd : World → α → List Value → Prop} {w : World} {size : Nat} {a : Option Addr} {cap : Nat} {xs : List α} (h : SlRd w rd size a cap xs) (hs : 0 < size) (hx : 0 < xs.length) (b o : Nat) (e : a = some ⟨b, o, none⟩) : b < w.heap.size := by
  obtain ⟨b', o', e', hb, -⟩ := h.at hs (k := 0) hx
  rw [e] at e'
  simp only [Option.some.injEq, Addr.mk.injEq] at e'
  omega
theorem rd_lit {w : World} (rows : List (Row 1)) (cells : Array Value) (ty : TypeId) (n : Nat) (hc : cells.toList = rows.flatMap Row.en) (hn : rows.length = n) (hm : n ≤ 100) {L : List NodeD} (h : All2 (fun x (r : Row 1) => rdNode (w.alloc (.cells cells ty)) x r.1) L rows) :
    SlRd (w.alloc (.cells cells ty)) rdNode 1 (some ⟨w.heap.size, 0, none⟩) n L := by
  subst hn
  exact ⟨rows, (Sl.of_owns (Owns.lit w w.heap.size Row.en 1 Row.en_len rows cells ty _ hc rfl (Nat.le_trans hm (by decide)) (Nat.le_refl _))).2, h⟩

set_option maxRecDepth 100000 in
set_option maxHeartbeats 32000000 in
theorem limits_any (w : World) (hT : TabsU w) (hp : PowTab w) (hg : LaidT w) :
    Calls Tryz.prog 17 #[] w fun e w' => e = .returned (.bool true) ∧ Below w.heap.size w w' := by
  have huM := Tryz.underlying46
  have huS := Tryz.underlying53
  have huT := Tryz.underlying57
  have HTU := Lib.hid (fun W (h : Below w.heap.size w W) => TabsU.keep hT h)
  have HPT := Lib.hid (fun W (h : Below w.heap.size w W) => PowTab.keep hp h)
  have HGT := Lib.hid (fun W (h : Below w.heap.size w W) => LaidT.keep hg h)
  have CPL := Lib.hid (fun (n : Int) (h1 : 1 ≤ n) (h2 : n ≤ 26) W h => plain_errno n n h1 h2 W h)
  clear hT hp hg
  have hown0 : OwnRd w w.heap.size 69 fdNode 1 (.slice none 0 0) [] := OwnRd.nil _ _ _ _ _
  have hbel0 : Below w.heap.size w w := Below.refl _ _
  go_enter Tryz.func17, Tryz.ntmps17
  go_wp2_with (at_builtin; go_loud (refine wpList_append_rd last_fdNode nodes_ty [] (NodeD.sta liSta) hown0 hbel0 (Nat.le_refl _) (by simp) ⟨_, rfl, .slice none 0 0, rfl, Owns.nil _ _ _ _ _⟩ rfl (by simp [Value.oneCell']) (apt_fdNode (by decide) (by decide) (by decide)) ?_))
  intro v1 w1 hown1 hb1 hg1
  clear hown0 hbel0 hg1
  go_wp2_with fail
  go_loopw [1, 2] (fun v i wr => ∃ k : Nat, k ≤ 512 ∧ i = .int .i64 k ∧ OwnRd wr w.heap.size 69 fdNode 1 v (NodeD.sta liSta :: List.replicate k (NodeD.msg (liM 2147483647 []))) ∧ Below w.heap.size w wr) (fun _ i _ => 512 - (intOf i).toNat)
  case atStart => exact ⟨0, by decide, rfl, hown1, hb1⟩
  case round =>
    obtain ⟨k, hk, rfl, hown, hbel⟩ := hrel
    by_cases hlt : (k : Int) < 512
    · have HR := Lib.hid (show (NodeD.sta liSta :: List.replicate k (NodeD.msg (liM 2147483647 []))) ++ [NodeD.msg (liM 2147483647 [])] = NodeD.sta liSta :: List.replicate (k + 1) (NodeD.msg (liM 2147483647 [])) by rw [List.cons_append, ← List.replicate_succ'])
      have hll : ((NodeD.sta liSta :: List.replicate k (NodeD.msg (liM 2147483647 []))).length + 1) * 16 ≤ 140737488355328 := by rw [List.length_cons, List.length_replicate]; omega
      generalize NodeD.sta liSta :: List.replicate k (NodeD.msg (liM 2147483647 [])) = PP at *
      go_wp2_with (at_builtin; go_loud (refine wpList_append_rd last_fdNode nodes_ty PP (NodeD.msg (liM 2147483647 [])) hown hbel (Nat.le_refl _) hll ⟨_, rfl, .slice none 0 0, rfl, OwnRd.nil _ _ _ _ _⟩ rfl (by simp [Value.oneCell']) (apt_fdNode (by decide) (by decide) (by decide)) ?_))
      intro v3 w3 hown3 hb3 hg3
      rw [HR.out] at hown3
      clear hown hbel hg3
      go_wp2_with fail
      go_roundw
      case rel => exact ⟨k + 1, by omega, by go_num, hown3, hb3⟩
      case measure => simp [intOf]; omega
    · obtain rfl : k = 512 := by omega
      clear hown1 hb1 hlt
      rw [msgs_nod] at hown
      obtain ⟨al, cl, rfl, hsl⟩ := hown.shape
      have hok := liD_ok (List.replicate 512 (liM 2147483647 [])) [] (by rw [List.length_replicate]; decide) (fun m hm => by rw [(List.mem_replicate.1 hm).2]; exact liM_ok _ (by decide) [] (Nat.zero_le _) (fun x hx => by cases hx)) (Nat.zero_le _) (fun t ht => by cases ht)
      have cF := file_parts _ hok.1 hok.2 _ rfl al cl wr (hsl.weak fun _ _ => fd_node) (HTU.out _ hbel) (HPT.out _ hbel)
      rw [li_msgs, if_pos rfl] at cF
      have HO1 := Lib.hid hown
      have HB1 := Lib.hid hbel
      have HLN := Lib.hid (show (nodL (liD (List.replicate 512 (liM 2147483647 [])) [])).length = 513 by rw [← msgs_nod, List.length_cons, List.length_replicate])
      have HLM := Lib.hid (show nodL (liD (List.replicate 512 (liM 2147483647 [])) []) ++ [NodeD.msg (liM 0 [])] = nodL (liD (List.replicate 512 (liM 2147483647 []) ++ [liM 0 []]) []) by rw [liD_nod, liD_nod, List.map_append]; simp)
      have HL0 := Lib.hid (show (nodL (liD (List.replicate 512 (liM 2147483647 [])) []))[0]? = some (.sta liSta) from rfl)
      clear hsl hown hbel hok
      generalize filT (liD (List.replicate 512 (liM 2147483647 [])) []) = TX1 at *
      generalize nodL (liD (List.replicate 512 (liM 2147483647 [])) []) = L1 at *
      go_wp2_with fail
      with_reducible refine cF.mono ?_
      rintro e w4 ⟨rfl, hb⟩
      have hown4 := HO1.out.keep last_fdNode hb
      have hbel4 := bstep HB1.out hb (Nat.le_refl _)
      have hll : (L1.length + 1) * 16 ≤ 140737488355328 := by rw [HLN.out]; decide
      clear cF hb HO1 HB1
      go_wp2_with (at_builtin; go_loud (refine wpList_append_rd2 last_fdNode nodes_ty L1 (NodeD.msg (liM 0 [])) hown4 hbel4 (Nat.le_refl _) hll ⟨_, rfl, .slice none 0 0, rfl, OwnRd.nil _ _ _ _ _⟩ rfl (by simp [Value.oneCell']) (apt_fdNode (by decide) (by decide) (by decide)) ?_))
      intro v5 w5 hown5 hb5 hg5 hsl5
      rw [HLM.out] at hown5
      obtain ⟨al2, cl2, rfl, hsl2⟩ := hown5.shape
      have hok2 := liD_ok (List.replicate 512 (liM 2147483647 []) ++ [liM 0 []]) [] (by rw [List.length_append, List.length_replicate]; decide) (fun m hm => by
        rcases List.mem_append.1 hm with hm | hm
        · rw [(List.mem_replicate.1 hm).2]; exact liM_ok _ (by decide) [] (Nat.zero_le _) (fun x hx => by cases hx)
        · rw [List.mem_singleton.1 hm]; exact liM_ok _ (by decide) [] (Nat.zero_le _) (fun x hx => by cases hx)) (Nat.zero_le _) (fun t ht => by cases ht)
      have cF2 := file_parts _ hok2.1 hok2.2 _ rfl al2 cl2 w5 (hsl2.weak fun _ _ => fd_node) (HTU.out _ hb5) (HPT.out _ hb5)
      rw [li_more, if_neg (by decide), fil_em4 li_more] at cF2
      obtain ⟨bl, ol, rfl, hbl, csl, hcl, hrl, hgl⟩ := hsl5.at (by decide) (k := 0) (by rw [HLN.out]; decide)
      have hL0 : L1[0]'(by rw [HLN.out]; decide) = .sta liSta := by have := HL0.out; rw [List.getElem?_eq_getElem (by rw [HLN.out]; decide)] at this; exact Option.some.inj this
      rw [hL0] at hrl
      obtain ⟨CS, rfl, hsta⟩ := hrl
      have f0 : w5.cell? ⟨bl, ol, none⟩ = some (.iface 28 (.agg CS)) := by simpa using hgl 0 _ rfl
      have HF0 := Lib.hid f0
      have HSTA := Lib.hid hsta
      have HB5 := Lib.hid hb5
      have hL3 : (0 : Int) < L1.length := by rw [HLN.out]; decide
      clear hok2 hsl2 hown5 hg5 hsl5 hown4 hbel4 hgl hcl hsta f0 HLM HL0 hL0 hb5 hll
      generalize (nodL (liD (List.replicate 512 (liM 2147483647 []) ++ [liM 0 []]) [])).length = n2 at *
      generalize L1.length = n1 at *
      go_wp2_with fail
      with_reducible refine cF2.mono ?_
      rintro e w6 ⟨rfl, hb⟩
      have H6 := Lib.hid hb
      have cE := example_any w6
      clear cF2 hb
      go_wp2_with fail
      with_reducible refine cE.mono ?_
      rintro e w7 ⟨v7, rfl, hown7, hb⟩
      rw [ex_nod] at hown7
      have H7 := Lib.hid (bstep H6.out hb (Nat.le_refl _))
      obtain ⟨g, capN, rfl, hgB, hgl, -, cs1, hcl1, hrd1, hrg1⟩ := hown7.at0 (by decide) (i := 1) (by show 1 < 3; decide)
      obtain ⟨CM, rfl, hfm⟩ := hrd1
      have f1 : w7.cell? ⟨g, 1, none⟩ = some (.iface 46 (.agg CM)) := hrg1 0 _ rfl
      have cM := nmsgI_any exM w7 CM (fd_msg hfm) (by decide) (by decide)
      clear hown7 hfm hrg1 hcl1 hb cE H6 hgB hgl
      simp only [List.length_cons, List.length_nil, Nat.reduceAdd] at *
      go_wp2_with fail
      with_reducible refine cM.mono ?_
      rintro e w8 ⟨C, rfl, ⟨vs, eC, hos⟩, hb⟩
      have H8 := Lib.hid (bstep H7.out hb (Nat.le_refl _))
      obtain ⟨gs, capS, rfl, hsB, hsl, -, cs2, hcl2, hrd2, hrg2⟩ := hos.at0 (by decide) (i := 1) (by show 1 < 2; decide)
      simp only [List.length_cons, List.length_nil, Nat.reduceAdd] at *
      obtain ⟨vr, ecs, hor⟩ := hrd2
      have hfl : ∀ W, (Instr.field 46 (.agg C) 6).run Tryz.prog W = .ok (.slice (some ⟨gs, 0, none⟩) 2 capS) W := by rw [Array.toList_inj.1 eC]; intro W; kernel_rfl
      have hd1 : cs2.toArray.size = 19 := by simpa using hcl2
      have hd2 : cs2.toArray.all (·.oneCell') = true := by
        obtain ⟨a4, c4, rfl, -⟩ := hor.shape
        rw [ecs]
        simpa using SigD.cells_one exS2.d a4 exS2.rs.length c4
      have hszS : (Tryz.prog.info? 53).map (·.size) = some cs2.length := by rw [hcl2]; exact sig_size
      have HX := Lib.hid (show cs2.toArray = exS2.d.cells vr by rw [ecs]; show (exS2.d.cells vr).toList.toArray = exS2.d.cells vr; simp)
      have HOR := Lib.hid (hor.fromBase (Nat.zero_le _))
      have hC8 : C.size = 8 := by rw [Array.toList_inj.1 eC]; rfl
      clear hos hor ecs eC f1 cM hb H7 hsB hsl
      have hrg3 : w8.rangeAt gs 19 cs2 := hrg2
      clear hrg2
      go_upto_region 10 with (first | (refine wpList_load_mid rfl 53 (.tmp 58) rfl gs 19 rfl cs2 _ hrg3 huS rfl hszS ?_) | (refine wpList_newS (Z := zeroSig) (cs := cs2.toArray) 53 (.tmp 7) (.tmp 59) (by rw [hd1]; exact sig_zero) (by rw [hd1]; rfl) hd2 ?_))
      have b7 := Blk.new w8 cs2.toArray 53
      have hb9 : Below w8.heap.size w8 (w8.alloc (.cells cs2.toArray 53)) := (Below.refl _ _).alloc (Nat.le_refl _) _
      have H9 := Lib.hid (bstep H8.out hb9 (Nat.le_refl _))
      have HO9 := Lib.hid (HOR.out.keep hb9 (Nat.le_refl _))
      have hk7 : w8.heap.size < (w8.alloc (.cells cs2.toArray 53)).heap.size := by simp
      clear hb9 H8 HOR hrg3 hszS hfl hC8 hcl2
      generalize w8.heap.size = k7 at *
      generalize w8.alloc (.cells cs2.toArray 53) = W9 at *
      generalize cs2.toArray = D2 at *
      obtain ⟨M0, hM0⟩ : ∃ C, C = (liM 0 []).cells (.slice none 0 0) := ⟨_, rfl⟩
      have HM0 := Lib.hid hM0
      have hM8 : M0.size = 8 := by rw [hM0]; rfl
      have hM1 : M0.all (·.oneCell') = true := by rw [hM0]; exact MsgD.cells_one _ _ _ _
      clear hM0
      go_upto_region 11 with (refine wpList_newS (Z := zeroMsgD) (cs := M0) 46 (.tmp 8) (.tmp 60) (by rw [hM8]; exact msg_zero) (by rw [hM8]; rfl) hM1 ?_ (hy := by rw [HM0.out]; rfl))
      have K8 := Lib.hid (show (W9.alloc (.cells M0 46)).heap[W9.heap.size]? = some (.cells ((liM 0 []).cells (.slice none 0 0)) 46) by rw [← HM0.out]; exact heap_alloc_new W9 _)
      have hb10 : Below W9.heap.size W9 (W9.alloc (.cells M0 46)) := (Below.refl _ _).alloc (Nat.le_refl _) _
      have O10 := Lib.hid (OwnRd.nil (W9.alloc (.cells M0 46)) W9.heap.size 53 fdSig 19)
      have HB7 := Lib.hid b7
      have H10 := Lib.hid hb10
      have hfill := Lib.hid (show Program.builtSlice Tryz.prog 53 1 [(0, .agg D2)] = some D2 by rw [HX.out]; kernel_rfl)
      clear hb10 b7 hM8 hM1
      generalize hk8 : W9.heap.size = k8 at *
      generalize W9.alloc (.cells M0 46) = W10 at *
      go_wp2_with fail
      go_loopw [9] (fun i wr => ∃ (k : Nat) (v : Value), k ≤ 64 ∧ i = .int .i64 k ∧ wr.heap[k8]? = some (.cells ((liM 0 []).cells v) 46) ∧ OwnRd wr k8 53 fdSig 19 v (List.replicate k exS2) ∧ Below k8 W9 wr) (fun i _ => 64 - (intOf i).toNat)
      case atStart => exact ⟨0, _, by decide, rfl, K8.out, O10.out, H10.out⟩
      case round =>
        obtain ⟨k, v, hk, rfl, hbx, hown, hbel⟩ := hrel
        obtain ⟨wq, hwq⟩ : ∃ y, y = wr := ⟨_, rfl⟩
        have hsh := hown.shape
        rw [List.length_replicate] at hsh
        obtain ⟨va, vc, rfl, hss⟩ := hsh
        have f7 : wr.cell? ⟨k8, 7, none⟩ = some (.slice va k vc) := Blk.cell ⟨_, hbx⟩ 7 _ rfl
        have hbelW : Below W9.heap.size W9 wr := by rw [hk8]; exact hbel
        have b7 : Blk wr k7 D2 := HB7.out.keep hbelW (Nat.le_refl _)
        by_cases hlt : (k : Int) < 64
        · have hfs : fdSig wr exS2 D2.toList := ⟨vr, congrArg Array.toList HX.out, HO9.out.keep hbelW (Nat.le_refl _)⟩
          have hll : ((List.replicate k exS2).length + 1) * 176 ≤ 140737488355328 := by rw [List.length_replicate]; omega
          have HRS := Lib.hid (show List.replicate k exS2 ++ [exS2] = List.replicate (k + 1) exS2 from List.replicate_succ'.symm)
          have HOW := Lib.hid hown
          have HBX := Lib.hid hbx
          have hfold := fold_set zeroSig D2 19 hd1 rfl
          clear hwq hss hbelW hbx
          generalize List.replicate k exS2 = PP at *
          go_wp2_with (first | (refine wpList_loadS b7 53 (.tmp 7) huS (by rw [hd1]; exact sig_size) ?_) | (at_builtin; go_loud (refine wpList_append_rd last_fdSig sigs_ty PP exS2 hown hbel (by omega) hll hfs hd1 hd2 (apt_fdSig (by decide)) ?_)))
          intro v' w3 hown3 hb3 hg3
          obtain ⟨rows, ho1, -⟩ := HOW.out
          have h8' := heap_grown2 HBX.out ho1 (by decide) hg3
          have f7' : w3.cell? ⟨k8, 7, none⟩ = some (.slice va k vc) := Blk.cell ⟨_, h8'⟩ 7 _ rfl
          have r7' := Blk.free ⟨_, h8'⟩ 7
          have K8' := Lib.hid (setCell_at h8' 7 v')
          have hsh' := hown3.shape
          rw [HRS.out, List.length_replicate] at hsh'
          obtain ⟨va', vc', rfl, -⟩ := hsh'
          have O3' := Lib.hid (hown3.setAt h8' (by decide) (apt_fdSig (by decide)) 7 (.slice va' (k + 1) vc'))
          have B3' := Lib.hid (below_set hb3 (Nat.le_refl k8) 7 (.slice va' (k + 1) vc'))
          clear hown hbel hg3 ho1 h8' hown3 hb3 hfs b7 f7
          go_wp2_with fail
          go_roundw
          case rel => exact ⟨k + 1, _, by omega, by go_num, K8'.out, by rw [← HRS.out]; exact O3'.out, B3'.out⟩
          case measure => simp [intOf]; omega
        · obtain rfl : k = 64 := by omega
          have HBX := Lib.hid hbx
          have HOW := Lib.hid hown
          have HBL := Lib.hid hbel
          have HA := Lib.hid (bstep H9.out hbelW (Nat.le_refl _))
          have hkw : k8 < wr.heap.size := (Array.getElem?_eq_some_iff.1 hbx).1
          obtain ⟨M6, hM6⟩ : ∃ C, C = (liM 0 []).cells (.slice va 64 vc) := ⟨_, rfl⟩
          have HM6 := Lib.hid hM6
          have s6 : M6.size = 8 := by rw [hM6]; rfl
          have u6 : M6.all (·.oneCell') = true := by rw [hM6]; exact MsgD.cells_one _ _ _ _
          have b8 : Blk wr k8 M6 := ⟨_, by rw [hM6]; exact hbx⟩
          clear hwq hss hbelW hbx hown hbel hM6 K8 O10 H10 hlt
          go_upto_region 16 with (first | (refine wpList_loadS b8 46 (.tmp 8) huM (by rw [s6]; exact msg_size) ?_) | (refine wpList_newS (Z := zeroMsgD) (cs := M6) 46 (.tmp 10) (.tmp 71) (by rw [s6]; exact msg_zero) (by rw [s6]; rfl) u6 ?_))
          have hb11 : Below wr.heap.size wr (wr.alloc (.cells M6 46)) := (Below.refl _ _).alloc (Nat.le_refl _) _
          have K8 := Lib.hid (Blk.kindAt HBX.out hb11)
          have K10 := heap_alloc_new wr (.cells M6 46)
          have hown := HOW.out.keep last_fdSig hb11
          have hbel := bstep HBL.out hb11 (by omega)
          have b7' := b7.keep hb11 (Nat.le_refl _)
          have HOW := Lib.hid hown
          have hfs : fdSig (wr.alloc (.cells M6 46)) exS2 D2.toList := ⟨vr, congrArg Array.toList HX.out, HO9.out.keep hbel (by omega)⟩
          have hll : ((List.replicate 64 exS2).length + 1) * 176 ≤ 140737488355328 := by rw [List.length_replicate]; decide
          have hpl : 0 < (List.replicate 64 exS2).length := by rw [List.length_replicate]; decide
          have HK10 := Lib.hid K10
          have f7' : (wr.alloc (.cells M6 46)).cell? ⟨wr.heap.size, 7, none⟩ = some (.slice va 64 vc) := Blk.cell ⟨_, K10⟩ 7 _ (by rw [HM6.out]; rfl)
          have hfold := fold_set zeroSig D2 19 hd1 rfl
          clear HBX HBL b8 f7 K10 b7 hb11
          have HP := Lib.hid (show List.replicate 64 exS2 = List.replicate 64 exS2 from rfl)
          generalize hPP : List.replicate 64 exS2 = PP at *
          have HPP := Lib.hid hPP
          clear hPP HP
          generalize wr.heap.size = k10 at *
          generalize wr.alloc (.cells M6 46) = W11 at *
          go_wp2_with (first | (refine wpList_loadS b7' 53 (.tmp 7) huS (by rw [hd1]; exact sig_size) ?_) | (at_builtin; go_loud (refine wpList_append_rd2 last_fdSig sigs_ty PP exS2 hown hbel (by omega) hll hfs hd1 hd2 (apt_fdSig (by decide)) ?_)))
          intro v' w3 hown3 hb3 hg3 hsl3
          obtain ⟨rows, ho1, -⟩ := HOW.out
          have h8' := heap_grown2 K8.out ho1 (by decide) hg3
          have h10' := heap_grown2 HK10.out ho1 (by decide) hg3
          have hneK : ∀ b o, va = some ⟨b, o, none⟩ → b ≠ k10 := fun b o e => by
            obtain ⟨b', c', he, -, -, ⟨C', hC'⟩, -⟩ := HOW.out.at0 (by decide) (i := 0) hpl
            simp only [Value.slice.injEq] at he
            rw [he.1] at e
            simp only [Option.some.injEq, Addr.mk.injEq] at e
            rw [← e.1]
            exact ne_kind hC' HK10.out (by decide)
          have hsh' := hown3.shape
          obtain ⟨va', vc', rfl, -⟩ := hsh'
          have hl65 : (PP ++ [exS2]).length = 65 := by rw [List.length_append, ← HPP.out, List.length_replicate]; rfl
          rw [hl65] at hown3
          have f7 : w3.cell? ⟨k10, 7, none⟩ = some (.slice va 64 vc) := Blk.cell ⟨_, h10'⟩ 7 _ (by rw [HM6.out]; rfl)
          have r7 := Blk.free ⟨_, h10'⟩ 7
          have hkk : k8 ≤ k10 := Nat.le_of_lt hkw
          have hne8 : k8 ≠ k10 := Nat.ne_of_lt hkw
          have B12 := Lib.hid (below_set hb3 hkk 7 (.slice va' 65 vc'))
          have K8' := Lib.hid (setCell_ne h8' hne8 7 (.slice va' 65 vc'))
          have K10' := Lib.hid (show (w3.setCell ⟨k10, 7, none⟩ (.slice va' 65 vc')).heap[k10]? = some (.cells ((liM 0 []).cells (.slice va' 65 vc')) 46) from by
            have := setCell_at h10' 7 (.slice va' 65 vc')
            rw [HM6.out] at this
            exact this)
          have O12 := Lib.hid (hown3.setAt h10' (by decide) (apt_fdSig (by decide)) 7 (.slice va' 65 vc'))
          have Q12 := Lib.hid (hsl3.setC (apt_fdSig (by decide)) h10' hneK 7 (.slice va' 65 vc'))
          clear hown hbel hg3 hsl3 ho1 h8' h10' hneK hown3 hb3 hfs hfold b7' f7' HOW HK10 K8 hll
          rw [hl65]
          go_upto_region 17 with fail
          clear f7 r7
          generalize w3.setCell ⟨k10, 7, none⟩ (.slice va' 65 vc') = W12 at *
          have HA := Lib.hid (bstep H9.out (hk8 ▸ B12.out) (Nat.le_refl _))
          have f0 : W12.cell? ⟨bl, ol, none⟩ = some (.iface 28 (.agg CS)) := cell_keep' HF0.out HA.out
          have b8 : Blk W12 k8 ((liM 0 []).cells (.slice va 64 vc)) := ⟨_, K8'.out⟩
          have s8 : ∀ v, ((liM 0 []).cells v).size = 8 := fun v => rfl
          have hn1 : 0 < n1 := by omega
          -- GEN
          have hl64 : PP.length = 64 := by rw [← HPP.out, List.length_replicate]
          have HBIG := Lib.hid (show ∀ x ∈ PP, x = exS2 from fun x hx => by rw [← HPP.out] at hx; exact (List.mem_replicate.1 hx).2)
          have hok17 := liD_ok [liM 0 PP] [] (by show (1 : Nat) ≤ _; decide) (fun m hm => by rw [List.mem_singleton.1 hm]; exact liM_ok _ (by decide) _ (by rw [hl64]; decide) HBIG.out) (Nat.zero_le _) (fun t ht => by cases ht)
          have cF17 := file_parts _ hok17.1 hok17.2 2 rfl
          rw [show filN (liD [liM 0 PP] []) = 0 from (by rw [← HPP.out]; exact li_sigs), if_pos rfl] at cF17
          have hcf17 : ∀ w', Below W12.heap.size W12 w' → Calls Tryz.prog 7 #[.slice (some ⟨w'.heap.size, 0, none⟩) 2 2] (w'.alloc (.cells #[.iface 28 (.agg CS), .iface 46 (.agg ((liM 0 []).cells (.slice va 64 vc)))] 69)) fun e w'' => e = .returned (.tuple #[.string ⟨(filT (liD [liM 0 PP] [])).toArray⟩, .nilIface]) ∧ Below (w'.alloc (.cells #[.iface 28 (.agg CS), .iface 46 (.agg ((liM 0 []).cells (.slice va 64 vc)))] 69)).heap.size (w'.alloc (.cells #[.iface 28 (.agg CS), .iface 46 (.agg ((liM 0 []).cells (.slice va 64 vc)))] 69)) w'' := fun w' hw' => by
            have hbA : Below W12.heap.size W12 (w'.alloc (.cells #[.iface 28 (.agg CS), .iface 46 (.agg ((liM 0 []).cells (.slice va 64 vc)))] 69)) := hw'.alloc hw'.size _
            have hA := bstep HA.out hbA (Nat.le_refl _)
            have hW := bstep HB5.out hA (Nat.le_refl _)
            exact cF17 _ 2 _ (rd_lit [(⟨[.iface 28 (.agg CS)], rfl⟩ : Row 1), ⟨[.iface 46 (.agg ((liM 0 []).cells (.slice va 64 vc)))], rfl⟩] _ _ 2 rfl rfl (by decide) (.cons ⟨CS, rfl, fd_sta (last_fdSta _ _ _ _ HSTA.out hA)⟩ (.cons (⟨((liM 0 []).cells (.slice va 64 vc)), rfl, va, vc, by show _ = ((liM 0 PP).cells (.slice va PP.length vc)).toList; rw [hl64]; rfl, (Q12.out.keep last_fdSig hbA).weak fun _ _ => fd_sig⟩) (.nil)))) (HTU.out _ hW) (HPT.out _ hW)
          have HQ := Lib.hid hcf17
          generalize filT (liD [liM 0 PP] []) = T17 at *
          clear hcf17 cF17 hok17
          go_wp2_with fail
          refine wp_region_held_drew (S := fun w' => Below W12.heap.size W12 w') (by kernel_rfl) ((Below.refl _ _).drew) (fun hHeld => ?_)
          refine held_take 0 (v := ?_) rfl (by kernel_rfl) (by kernel_rfl) (by kernel_rfl) (fun _ _ _ h => h) (by assumption) ?_ ?_
          rotate_left
          · first | (refine Or.inr ⟨?_, ?_⟩ <;> rfl) | (refine Or.inl ⟨by rfl, ?_⟩; intro w hSw; (try dsimp only at hSw); first | (go_simp; done) | (go_simp; with_reducible rfl))
          try simp only [Act.put, List.setIfInBounds_toArray, List.set_cons_zero, List.set_cons_succ]
          refine held_take 1 (v := ?_) rfl (by kernel_rfl) (by kernel_rfl) (by kernel_rfl) (fun _ _ _ h => h) (by assumption) ?_ ?_
          rotate_left
          · first | (refine Or.inr ⟨?_, ?_⟩ <;> rfl) | (refine Or.inl ⟨by rfl, ?_⟩; intro w hSw; (try dsimp only at hSw); first | (go_simp; done) | (go_simp; with_reducible rfl))
          try simp only [Act.put, List.setIfInBounds_toArray, List.set_cons_zero, List.set_cons_succ]
          refine held_take 2 (v := ?_) rfl (by kernel_rfl) (by kernel_rfl) (by kernel_rfl) (fun _ _ _ h => h) (by assumption) ?_ ?_
          rotate_left
          · first | (refine Or.inr ⟨?_, ?_⟩ <;> rfl) | (refine Or.inl ⟨by rfl, ?_⟩; intro w hSw; (try dsimp only at hSw); have c0 := cell_keep' f0 hSw; first | (go_simp; done) | (go_simp; with_reducible rfl))
          try simp only [Act.put, List.setIfInBounds_toArray, List.set_cons_zero, List.set_cons_succ]
          refine held_take 3 (v := .agg ((liM 0 []).cells (.slice va 64 vc))) rfl (by kernel_rfl) (by kernel_rfl) (by kernel_rfl) (fun _ _ _ h => h) (by assumption) (yields_loadS (fun w hw => b8.keep hw (Nat.le_refl _)) 46 (.tmp 8) huM (by rw [s8]; exact msg_size)) ?_
          try simp only [Act.put, List.setIfInBounds_toArray, List.set_cons_zero, List.set_cons_succ]
          refine held_take 4 (v := ?_) rfl (by kernel_rfl) (by kernel_rfl) (by kernel_rfl) (fun _ _ _ h => h) (by assumption) ?_ ?_
          rotate_left
          · first | (refine Or.inr ⟨?_, ?_⟩ <;> rfl) | (refine Or.inl ⟨by rfl, ?_⟩; intro w hSw; (try dsimp only at hSw); first | (go_simp; done) | (go_simp; with_reducible rfl))
          try simp only [Act.put, List.setIfInBounds_toArray, List.set_cons_zero, List.set_cons_succ]
          refine held_call 5 rfl (by kernel_rfl) (fun K hK => ?_)
          go_simp
          refine hK.out _ _ ?_ (fun hHeld2 => ?_)
          · exact hHeld.alloc (by first | exact hHeld.size | simp) _
          clear hK K
          try simp only [Act.put, List.setIfInBounds_toArray, List.set_cons_zero, List.set_cons_succ]
          refine held_call 6 rfl (by kernel_rfl) (fun K hK => ?_)
          go_simp
          have hq := HQ.out _ hHeld
          try rw [show W12.drew.heap.size = W12.heap.size from rfl] at hq
          refine hq.mono ?_
          clear hq HQ
          rintro e wq17 ⟨rfl, hb⟩
          refine hK.out _ _ ?_ (fun hHeld3 => ?_)
          · exact bstep hHeld2 hb (Nat.le_refl _)
          clear hK K hHeld hHeld2 hb
          try simp only [Act.put, List.setIfInBounds_toArray, List.set_cons_zero, List.set_cons_succ]
          refine held_take 7 (v := ?_) rfl (by kernel_rfl) (by kernel_rfl) (by kernel_rfl) (fun _ _ _ h => h) (by assumption) ?_ ?_
          rotate_left
          · first | (refine Or.inr ⟨?_, ?_⟩ <;> rfl) | (refine Or.inl ⟨by rfl, ?_⟩; intro w hSw; (try dsimp only at hSw); first | (go_simp; done) | (go_simp; with_reducible rfl))
          try simp only [Act.put, List.setIfInBounds_toArray, List.set_cons_zero, List.set_cons_succ]
          refine held_take 8 (v := ?_) rfl (by kernel_rfl) (by kernel_rfl) (by kernel_rfl) (fun _ _ _ h => h) (by assumption) ?_ ?_
          rotate_left
          · first | (refine Or.inr ⟨?_, ?_⟩ <;> rfl) | (refine Or.inl ⟨by rfl, ?_⟩; intro w hSw; (try dsimp only at hSw); first | (go_simp; done) | (go_simp; with_reducible rfl))
          try simp only [Act.put, List.setIfInBounds_toArray, List.set_cons_zero, List.set_cons_succ]
          refine held_take 9 (v := ?_) rfl (by kernel_rfl) (by kernel_rfl) (by kernel_rfl) (fun _ _ _ h => h) (by assumption) ?_ ?_
          rotate_left
          · first | (refine Or.inr ⟨?_, ?_⟩ <;> rfl) | (refine Or.inl ⟨by rfl, ?_⟩; intro w hSw; (try dsimp only at hSw); first | (go_simp; done) | (go_simp; with_reducible rfl))
          try simp only [Act.put, List.setIfInBounds_toArray, List.set_cons_zero, List.set_cons_succ]
          refine held_take 10 (v := ?_) rfl (by kernel_rfl) (by kernel_rfl) (by kernel_rfl) (fun _ _ _ h => h) (by assumption) ?_ ?_
          rotate_left
          · first | (refine Or.inr ⟨?_, ?_⟩ <;> rfl) | (refine Or.inl ⟨by rfl, ?_⟩; intro w hSw; (try dsimp only at hSw); first | (go_simp; done) | (go_simp; with_reducible rfl))
          try simp only [Act.put, List.setIfInBounds_toArray, List.set_cons_zero, List.set_cons_succ]
          refine held_take 11 (v := ?_) rfl (by kernel_rfl) (by kernel_rfl) (by kernel_rfl) (fun _ _ _ h => h) (by assumption) ?_ ?_
          rotate_left
          · first | (refine Or.inr ⟨?_, ?_⟩ <;> rfl) | (refine Or.inl ⟨by rfl, ?_⟩; intro w hSw; (try dsimp only at hSw); first | (go_simp; done) | (go_simp; with_reducible rfl))
          try simp only [Act.put, List.setIfInBounds_toArray, List.set_cons_zero, List.set_cons_succ]
          refine wpAnyH_done (by kernel_rfl) ?_ _
          have hb17 := hHeld3
          clear hHeld3
          have b10 : Blk W12 k10 ((liM 0 []).cells (.slice va' 65 vc')) := ⟨_, K10'.out⟩
          have hl65 : (PP ++ [exS2]).length = 65 := by rw [List.length_append, hl64]; rfl
          obtain ⟨ab, cb, heb, hsb⟩ := O12.out.shape
          simp only [Value.slice.injEq] at heb
          obtain ⟨rfl, -, rfl⟩ := heb
          have Q18 := Lib.hid hsb
          clear hsb
          have hok18 := liD_ok [liM 0 (PP ++ [exS2])] [] (by show (1 : Nat) ≤ _; decide) (fun m hm => by rw [List.mem_singleton.1 hm]; exact liM_ok _ (by decide) _ (by rw [hl65]; decide) (fun x hx => by rcases List.mem_append.1 hx with hx | hx; exact HBIG.out x hx; exact List.mem_singleton.1 hx)) (Nat.zero_le _) (fun t ht => by cases ht)
          have cF18 := file_parts _ hok18.1 hok18.2 2 rfl
          rw [fil_em (show filN (liD [liM 0 (PP ++ [exS2])] []) = 4 from (by rw [← HPP.out]; exact li_big)) (by decide), show filN (liD [liM 0 (PP ++ [exS2])] []) = 4 from (by rw [← HPP.out]; exact li_big), if_neg (by decide)] at cF18
          have hcf18 : ∀ w', Below W12.heap.size W12 w' → Calls Tryz.prog 7 #[.slice (some ⟨w'.heap.size, 0, none⟩) 2 2] (w'.alloc (.cells #[.iface 28 (.agg CS), .iface 46 (.agg ((liM 0 []).cells (.slice va' 65 vc')))] 69)) fun e w'' => e = .returned (.tuple #[.string ⟨#[]⟩, errV 4]) ∧ Below (w'.alloc (.cells #[.iface 28 (.agg CS), .iface 46 (.agg ((liM 0 []).cells (.slice va' 65 vc')))] 69)).heap.size (w'.alloc (.cells #[.iface 28 (.agg CS), .iface 46 (.agg ((liM 0 []).cells (.slice va' 65 vc')))] 69)) w'' := fun w' hw' => by
            have hbA : Below W12.heap.size W12 (w'.alloc (.cells #[.iface 28 (.agg CS), .iface 46 (.agg ((liM 0 []).cells (.slice va' 65 vc')))] 69)) := hw'.alloc hw'.size _
            have hA := bstep HA.out hbA (Nat.le_refl _)
            have hW := bstep HB5.out hA (Nat.le_refl _)
            exact cF18 _ 2 _ (rd_lit [(⟨[.iface 28 (.agg CS)], rfl⟩ : Row 1), ⟨[.iface 46 (.agg ((liM 0 []).cells (.slice va' 65 vc')))], rfl⟩] _ _ 2 rfl rfl (by decide) (.cons ⟨CS, rfl, fd_sta (last_fdSta _ _ _ _ HSTA.out hA)⟩ (.cons (⟨((liM 0 []).cells (.slice va' 65 vc')), rfl, va', vc', by show _ = ((liM 0 (PP ++ [exS2])).cells (.slice va' (PP ++ [exS2]).length vc')).toList; rw [hl65]; rfl, (Q18.out.keep last_fdSig hbA).weak fun _ _ => fd_sig⟩) (.nil)))) (HTU.out _ hW) (HPT.out _ hW)
          have HQ := Lib.hid hcf18
          clear hcf18 cF18 hok18
          go_wp2_with fail
          refine wp_region_held_drew (S := fun w' => Below W12.heap.size W12 w') (by kernel_rfl) hb17.drew (fun hHeld => ?_)
          refine held_take 0 (v := ?_) rfl (by kernel_rfl) (by kernel_rfl) (by kernel_rfl) (fun _ _ _ h => h) (by assumption) ?_ ?_
          rotate_left
          · first | (refine Or.inr ⟨?_, ?_⟩ <;> rfl) | (refine Or.inl ⟨by rfl, ?_⟩; intro w hSw; (try dsimp only at hSw); first | (go_simp; done) | (go_simp; with_reducible rfl))
          try simp only [Act.put, List.setIfInBounds_toArray, List.set_cons_zero, List.set_cons_succ]
          refine held_take 1 (v := ?_) rfl (by kernel_rfl) (by kernel_rfl) (by kernel_rfl) (fun _ _ _ h => h) (by assumption) ?_ ?_
          rotate_left
          · first | (refine Or.inr ⟨?_, ?_⟩ <;> rfl) | (refine Or.inl ⟨by rfl, ?_⟩; intro w hSw; (try dsimp only at hSw); first | (go_simp; done) | (go_simp; with_reducible rfl))
          try simp only [Act.put, List.setIfInBounds_toArray, List.set_cons_zero, List.set_cons_succ]
          refine held_take 2 (v := ?_) rfl (by kernel_rfl) (by kernel_rfl) (by kernel_rfl) (fun _ _ _ h => h) (by assumption) ?_ ?_
          rotate_left
          · first | (refine Or.inr ⟨?_, ?_⟩ <;> rfl) | (refine Or.inl ⟨by rfl, ?_⟩; intro w hSw; (try dsimp only at hSw); have c0 := cell_keep' f0 hSw; first | (go_simp; done) | (go_simp; with_reducible rfl))
          try simp only [Act.put, List.setIfInBounds_toArray, List.set_cons_zero, List.set_cons_succ]
          refine held_take 3 (v := .agg ((liM 0 []).cells (.slice va' 65 vc'))) rfl (by kernel_rfl) (by kernel_rfl) (by kernel_rfl) (fun _ _ _ h => h) (by assumption) (yields_loadS (fun w hw => b10.keep hw (Nat.le_refl _)) 46 (.tmp 10) huM (by rw [s8]; exact msg_size)) ?_
          try simp only [Act.put, List.setIfInBounds_toArray, List.set_cons_zero, List.set_cons_succ]
          refine held_take 4 (v := ?_) rfl (by kernel_rfl) (by kernel_rfl) (by kernel_rfl) (fun _ _ _ h => h) (by assumption) ?_ ?_
          rotate_left
          · first | (refine Or.inr ⟨?_, ?_⟩ <;> rfl) | (refine Or.inl ⟨by rfl, ?_⟩; intro w hSw; (try dsimp only at hSw); first | (go_simp; done) | (go_simp; with_reducible rfl))
          try simp only [Act.put, List.setIfInBounds_toArray, List.set_cons_zero, List.set_cons_succ]
          refine held_call 5 rfl (by kernel_rfl) (fun K hK => ?_)
          go_simp
          refine hK.out _ _ ?_ (fun hHeld2 => ?_)
          · exact hHeld.alloc (by first | exact hHeld.size | simp) _
          clear hK K
          try simp only [Act.put, List.setIfInBounds_toArray, List.set_cons_zero, List.set_cons_succ]
          refine held_call 6 rfl (by kernel_rfl) (fun K hK => ?_)
          go_simp
          have hq := HQ.out _ hHeld
          try rw [show wq17.drew.heap.size = wq17.heap.size from rfl] at hq
          refine hq.mono ?_
          clear hq HQ
          rintro e wq18 ⟨rfl, hb⟩
          refine hK.out _ _ ?_ (fun hHeld3 => ?_)
          · exact bstep hHeld2 hb (Nat.le_refl _)
          clear hK K hHeld hHeld2 hb
          try simp only [Act.put, List.setIfInBounds_toArray, List.set_cons_zero, List.set_cons_succ]
          refine held_take 7 (v := ?_) rfl (by kernel_rfl) (by kernel_rfl) (by kernel_rfl) (fun _ _ _ h => h) (by assumption) ?_ ?_
          rotate_left
          · first | (refine Or.inr ⟨?_, ?_⟩ <;> rfl) | (refine Or.inl ⟨by rfl, ?_⟩; intro w hSw; (try dsimp only at hSw); first | (go_simp; done) | (go_simp; with_reducible rfl))
          try simp only [Act.put, List.setIfInBounds_toArray, List.set_cons_zero, List.set_cons_succ]
          refine held_take 8 (v := ?_) rfl (by kernel_rfl) (by kernel_rfl) (by kernel_rfl) (fun _ _ _ h => h) (by assumption) ?_ ?_
          rotate_left
          · first | (refine Or.inr ⟨?_, ?_⟩ <;> rfl) | (refine Or.inl ⟨by rfl, ?_⟩; intro w hSw; (try dsimp only at hSw); first | (go_simp; done) | (go_simp; with_reducible rfl))
          try simp only [Act.put, List.setIfInBounds_toArray, List.set_cons_zero, List.set_cons_succ]
          refine held_take 9 (v := ?_) rfl (by kernel_rfl) (by kernel_rfl) (by kernel_rfl) (fun _ _ _ h => h) (by assumption) ?_ ?_
          rotate_left
          · first | (refine Or.inr ⟨?_, ?_⟩ <;> rfl) | (refine Or.inl ⟨by rfl, ?_⟩; intro w hSw; (try dsimp only at hSw); first | (go_simp; done) | (go_simp; with_reducible rfl))
          try simp only [Act.put, List.setIfInBounds_toArray, List.set_cons_zero, List.set_cons_succ]
          refine held_take 10 (v := ?_) rfl (by kernel_rfl) (by kernel_rfl) (by kernel_rfl) (fun _ _ _ h => h) (by assumption) ?_ ?_
          rotate_left
          · first | (refine Or.inr ⟨?_, ?_⟩ <;> rfl) | (refine Or.inl ⟨by rfl, ?_⟩; intro w hSw; (try dsimp only at hSw); first | (go_simp; done) | (go_simp; with_reducible rfl))
          try simp only [Act.put, List.setIfInBounds_toArray, List.set_cons_zero, List.set_cons_succ]
          refine held_take 11 (v := ?_) rfl (by kernel_rfl) (by kernel_rfl) (by kernel_rfl) (fun _ _ _ h => h) (by assumption) ?_ ?_
          rotate_left
          · first | (refine Or.inr ⟨?_, ?_⟩ <;> rfl) | (refine Or.inl ⟨by rfl, ?_⟩; intro w hSw; (try dsimp only at hSw); first | (go_simp; done) | (go_simp; with_reducible rfl))
          try simp only [Act.put, List.setIfInBounds_toArray, List.set_cons_zero, List.set_cons_succ]
          refine wpAnyH_done (by kernel_rfl) ?_ _
          have hb18 := hHeld3
          clear hHeld3
          have HA18 := Lib.hid (bstep HA.out hb18 (Nat.le_refl _))
          clear b8 b10 f0 Q18 hb17
          obtain ⟨T0, hT0⟩ : ∃ C, C = (liT []).cells (.slice none 0 0) := ⟨_, rfl⟩
          have HT0 := Lib.hid hT0
          have sT0 : T0.size = 6 := by rw [hT0]; rfl
          have uT0 : T0.all (·.oneCell') = true := by rw [hT0]; exact TabD.cells_one _ _ _ _
          clear hT0
          go_upto_region 20 with (refine wpList_newS (Z := zeroTabD) (cs := T0) 57 (.tmp 15) (.tmp 98) (by rw [sT0]; exact tab_zero) (by rw [sT0]; rfl) uT0 ?_ (hy := by rw [HT0.out]; rfl))
          have hb19 : Below wq18.heap.size wq18 (wq18.alloc (.cells T0 57)) := (Below.refl _ _).alloc (Nat.le_refl _) _
          have K15 := Lib.hid (show (wq18.alloc (.cells T0 57)).heap[wq18.heap.size]? = some (.cells ((liT []).cells (.slice none 0 0)) 57) by rw [← HT0.out]; exact heap_alloc_new wq18 _)
          have H19 := Lib.hid hb19
          clear hb19 hb18
          generalize wq18.alloc (.cells T0 57) = W19 at *
          go_wp2_with fail
          go_loopw [16] (fun s wr => ∃ k : Nat, k ≤ 1024 ∧ s = .string ⟨(List.replicate k (97 : UInt8)).toArray⟩ ∧ Below W19.heap.size W19 wr) (fun s _ => 1024 - stL s)
          case atStart => exact ⟨0, by decide, rfl, Below.refl _ _⟩
          case round =>
            obtain ⟨k, hk, rfl, hwr⟩ := hrel
            have HWR := Lib.hid hwr
            clear hwr
            have hXl : (List.replicate k (97 : UInt8)).length = k := List.length_replicate
            have HXS := Lib.hid (show List.replicate k (97 : UInt8) ++ [97] = List.replicate (k + 1) 97 from List.replicate_succ'.symm)
            by_cases hlt : (k : Int) < 1024
            · obtain ⟨Z, eZ, aZ, nZ, -⟩ := strCat (List.replicate k (97 : UInt8)) [97] (by omega) (by simp)
              have EZ := Lib.hid eZ
              have hXi : ((List.replicate k (97 : UInt8)).length : Int) < 1024 := by omega
              have HXL := Lib.hid hXl
              clear eZ hXl
              generalize List.replicate k (97 : UInt8) = X at *
              simp only [List.length_cons, List.length_nil, Nat.reduceAdd] at nZ
              go_wp2_with fail
              go_roundw
              case rel => exact ⟨k + 1, by omega, by rw [EZ.out, HXS.out], HWR.out⟩
              case measure => simp only [stL, ByteArray.size, List.size_toArray, HXL.out, EZ.out, List.length_append, List.length_cons, List.length_nil]; omega
            · obtain rfl : k = 1024 := by omega
              have hXi : ¬ (((List.replicate 1024 (97 : UInt8)).length : Int) < 1024) := by rw [hXl]; decide
              clear hXl HXS hlt
              obtain ⟨AA, hAA⟩ : ∃ AA, AA = List.replicate 1024 (97 : UInt8) := ⟨_, rfl⟩
              rw [← hAA] at hXi ⊢
              have HAA := Lib.hid hAA
              clear hAA
              obtain ⟨W20, hW20⟩ : ∃ y, y = wr := ⟨_, rfl⟩
              subst hW20
              have K20 := Lib.hid (Blk.kindAt K15.out HWR.out)
              have B20 := Lib.hid (bstep H19.out HWR.out (Nat.le_refl _))
              generalize hk15 : wq18.heap.size = k15 at *
              clear K15 H19
              go_wp2_with fail
              go_loopw [17] (fun i wr => ∃ (k : Nat) (v : Value), k ≤ 256 ∧ i = .int .i64 k ∧ wr.heap[k15]? = some (.cells ((liT []).cells v) 57) ∧ Owns wr k15 63 2 enRw v (List.replicate k ((0 : Int), AA)) ∧ Below k15 wq18 wr) (fun i _ => 256 - (intOf i).toNat)
              case atStart => exact ⟨0, _, by decide, rfl, K20.out, Owns.nil _ _ _ _ _, B20.out⟩
              case round =>
                obtain ⟨k, v, hk, rfl, hbx, hown, hbel⟩ := hrel
                have hsh := hown.shape
                rw [List.length_replicate] at hsh
                obtain ⟨ra, rc, rfl, -⟩ := hsh
                have f5 : wr.cell? ⟨k15, 5, none⟩ = some (.slice ra k rc) := Blk.cell ⟨_, hbx⟩ 5 _ rfl
                by_cases hlt : (k : Int) < 256
                · have hll : ((List.replicate k ((0 : Int), AA)).length + 1) * 24 ≤ 140737488355328 := by rw [List.length_replicate]; omega
                  have HRS := Lib.hid (show List.replicate k ((0 : Int), AA) ++ [(0, AA)] = List.replicate (k + 1) (0, AA) from List.replicate_succ'.symm)
                  have HOW2 := Lib.hid hown
                  have HBX := Lib.hid hbx
                  clear hbx
                  generalize List.replicate k ((0 : Int), AA) = RR at *
                  go_wp2_with (at_builtin; go_loud (refine wpList_append_elem4 rows_ty RR ((0 : Int), AA) hown hbel (by omega) hll ?_ (hone := enRw_one _)))
                  intro v' w3 hown3 hb3 hg3 _ _
                  have h15 := heap_grown2 HBX.out HOW2.out (by decide) hg3
                  have f5' : w3.cell? ⟨k15, 5, none⟩ = some (.slice ra k rc) := Blk.cell ⟨_, h15⟩ 5 _ rfl
                  have r5' := Blk.free ⟨_, h15⟩ 5
                  have hsh' := hown3.shape
                  rw [HRS.out, List.length_replicate] at hsh'
                  obtain ⟨ra', rc', rfl, -⟩ := hsh'
                  have K15' := Lib.hid (setCell_at h15 5 (.slice ra' (k + 1) rc'))
                  have O15' := Lib.hid (hown3.setAt h15 (by decide) 5 (.slice ra' (k + 1) rc'))
                  have B15' := Lib.hid (below_set hb3 (Nat.le_refl k15) 5 (.slice ra' (k + 1) rc'))
                  clear hown hbel hg3 h15 hown3 hb3 f5
                  go_wp2_with fail
                  go_roundw
                  case rel => exact ⟨k + 1, _, by omega, by go_num, K15'.out, by rw [← HRS.out]; exact O15'.out, B15'.out⟩
                  case measure => simp [intOf]; omega
                · obtain rfl : k = 256 := by omega
                  have HOW2 := Lib.hid hown
                  have HBX := Lib.hid hbx
                  have HBL2 := Lib.hid hbel
                  have hkw2 : k15 < wr.heap.size := (Array.getElem?_eq_some_iff.1 hbx).1
                  have b15 : Blk wr k15 ((liT []).cells (.slice ra 256 rc)) := ⟨_, hbx⟩
                  have s15 : ∀ v, ((liT []).cells v).size = 6 := fun v => rfl
                  have u15 : ((liT []).cells (.slice ra 256 rc)).all (·.oneCell') = true := TabD.cells_one _ _ _ _
                  have hneR : ∀ b o, ra = some ⟨b, o, none⟩ → b < wr.heap.size := fun b o e => (hown.lt b (by rw [e]; rfl)).2
                  clear hbx hown hbel hlt K20 B20
                  go_upto_region 28 with (first | (refine wpList_loadS b15 57 (.tmp 15) huT (by rw [s15]; exact tab_size) ?_) | (refine wpList_newS (Z := zeroTabD) (cs := (liT []).cells (.slice ra 256 rc)) 57 (.tmp 18) (.tmp 115) (by rw [s15]; exact tab_zero) (by rw [s15]; rfl) u15 ?_))
                  have hb21 : Below wr.heap.size wr (wr.alloc (.cells ((liT []).cells (.slice ra 256 rc)) 57)) := (Below.refl _ _).alloc (Nat.le_refl _) _
                  have K15 := Lib.hid (Blk.kindAt HBX.out hb21)
                  have K18 := Lib.hid (heap_alloc_new wr (.cells ((liT []).cells (.slice ra 256 rc)) 57))
                  have hown := HOW2.out.keep hb21 (Nat.le_refl _)
                  have hbel := bstep HBL2.out hb21 (by omega)
                  have HOW3 := Lib.hid hown
                  have f5' : (wr.alloc (.cells ((liT []).cells (.slice ra 256 rc)) 57)).cell? ⟨wr.heap.size, 5, none⟩ = some (.slice ra 256 rc) := Blk.cell ⟨_, K18.out⟩ 5 _ rfl
                  clear HBX HBL2 b15 f5 hb21 HOW2
                  have hRl : (List.replicate 256 ((0 : Int), AA)).length = 256 := List.length_replicate
                  have hll : ((List.replicate 256 ((0 : Int), AA)).length + 1) * 24 ≤ 140737488355328 := by rw [hRl]; decide
                  have HRR := Lib.hid (show List.replicate 256 ((0 : Int), AA) = liR by rw [HAA.out])
                  have hRm : Hid (∀ x ∈ List.replicate 256 ((0 : Int), AA), x.1 = 0 ∧ x.2.length ≤ 1024) := Lib.hid fun x hx => by rw [(List.mem_replicate.1 hx).2, HAA.out]; exact ⟨rfl, by rw [List.length_replicate]; exact Nat.le_refl _⟩
                  generalize List.replicate 256 ((0 : Int), AA) = RR at *
                  have hRl' := Lib.hid hRl
                  clear hRl
                  generalize hk18 : wr.heap.size = k18 at *
                  generalize wr.alloc (.cells ((liT []).cells (.slice ra 256 rc)) 57) = W21 at *
                  go_wp2_with (at_builtin; go_loud (refine wpList_append_elem4 rows_ty RR ((0 : Int), ([] : List UInt8)) hown hbel (by omega) hll ?_ (hone := enRw_one _)))
                  intro v' w3 hown3 hb3 hg3 _ hgr
                  have h15 := heap_grown2 K15.out HOW3.out (by decide) hg3
                  have h18 := heap_grown2 K18.out HOW3.out (by decide) hg3
                  have hsl3 := sl_grew enRw_len rfl HOW3.out hown3 hgr
                  have f5 : w3.cell? ⟨k18, 5, none⟩ = some (.slice ra 256 rc) := Blk.cell ⟨_, h18⟩ 5 _ rfl
                  have r5 := Blk.free ⟨_, h18⟩ 5
                  have hsh' := hown3.shape
                  rw [show (RR ++ [((0 : Int), ([] : List UInt8))]).length = 257 by rw [List.length_append, hRl'.out]; rfl] at hsh'
                  obtain ⟨ra', rc', rfl, -⟩ := hsh'
                  have hkk2 : k15 ≠ k18 := Nat.ne_of_lt hkw2
                  have K15' := Lib.hid (setCell_ne h15 hkk2 5 (.slice ra' 257 rc'))
                  have K18' := Lib.hid (setCell_at h18 5 (.slice ra' 257 rc'))
                  have O22 := Lib.hid (hown3.setAt h18 (by decide) 5 (.slice ra' 257 rc'))
                  have Q22 := Lib.hid (hsl3.of_block (w' := w3.setCell ⟨k18, 5, none⟩ (.slice ra' 257 rc')) fun b o e => Below.heap_setCell _ _ _ _ (show b ≠ k18 from by have := hneR b o e; omega))
                  have B22 := Lib.hid (below_set hb3 (Nat.le_of_lt hkw2) 5 (.slice ra' 257 rc'))
                  clear hown hbel hg3 h15 h18 hown3 hb3 f5' hgr hsl3 K15 K18 HOW3 hll
                  go_upto_region 29 with fail
                  clear f5 r5
                  generalize w3.setCell ⟨k18, 5, none⟩ (.slice ra' 257 rc') = W22 at *
                  have HA22 := Lib.hid (bstep HA18.out (hk15 ▸ B22.out) (Nat.le_refl _))
                  have f0 : W22.cell? ⟨bl, ol, none⟩ = some (.iface 28 (.agg CS)) := cell_keep' HF0.out HA22.out
                  have b15 : Blk W22 k15 ((liT []).cells (.slice ra 256 rc)) := ⟨_, K15'.out⟩
                  have b18 : Blk W22 k18 ((liT []).cells (.slice ra' 257 rc')) := ⟨_, K18'.out⟩
                  clear K15' K18' hneR
                  have HTB := Lib.hid (liT_ok RR (by rw [hRl'.out]; decide) hRm.out)
                  have HTM := Lib.hid (liT_ok (RR ++ [((0 : Int), ([] : List UInt8))]) (by rw [List.length_append, hRl'.out]; decide) (fun x hx => by
                    rcases List.mem_append.1 hx with hx | hx
                    · exact hRm.out x hx
                    · rw [List.mem_singleton.1 hx]; exact ⟨rfl, Nat.zero_le _⟩))
                  have hl257 : (RR ++ [((0 : Int), ([] : List UInt8))]).length = 257 := by rw [List.length_append, hRl'.out]; rfl
                  have hl256 : RR.length = 256 := hRl'.out
                  have Q23 : Hid (SlOf W22 enRw 2 ra' rc' (RR ++ [((0 : Int), ([] : List UInt8))])) := Lib.hid (by
                    obtain ⟨a, c, e, hs⟩ := O22.out.shape
                    simp only [Value.slice.injEq] at e
                    obtain ⟨rfl, -, rfl⟩ := e
                    exact hs)
                  have hok29 := liD_ok [] [liT RR, liT RR, liT RR] (Nat.zero_le _) (fun m hm => by cases hm) (by show (3 : Nat) ≤ _; decide) (fun t ht => by
                    have e : t = liT RR := by simpa using ht
                    rw [e]
                    exact HTB.out)
                  have cF29 := file_parts _ hok29.1 hok29.2 4 rfl
                  rw [show filN (liD [] [liT RR, liT RR, liT RR]) = 0 from (by show filN (liD [] (List.replicate 3 (liT RR))) = 0; rw [HRR.out]; exact li_three), if_pos rfl] at cF29
                  have hcf29 : ∀ w', Below W22.heap.size W22 w' → Calls Tryz.prog 7 #[.slice (some ⟨w'.heap.size, 0, none⟩) 4 4] (w'.alloc (.cells #[.iface 28 (.agg CS), .iface 57 (.agg ((liT []).cells (.slice ra 256 rc))), .iface 57 (.agg ((liT []).cells (.slice ra 256 rc))), .iface 57 (.agg ((liT []).cells (.slice ra 256 rc)))] 69)) fun e w'' => e = .returned (.tuple #[.string ⟨(filT (liD [] [liT RR, liT RR, liT RR])).toArray⟩, .nilIface]) ∧ Below (w'.alloc (.cells #[.iface 28 (.agg CS), .iface 57 (.agg ((liT []).cells (.slice ra 256 rc))), .iface 57 (.agg ((liT []).cells (.slice ra 256 rc))), .iface 57 (.agg ((liT []).cells (.slice ra 256 rc)))] 69)).heap.size (w'.alloc (.cells #[.iface 28 (.agg CS), .iface 57 (.agg ((liT []).cells (.slice ra 256 rc))), .iface 57 (.agg ((liT []).cells (.slice ra 256 rc))), .iface 57 (.agg ((liT []).cells (.slice ra 256 rc)))] 69)) w'' := fun w' hw' => by
                    have hbA : Below W22.heap.size W22 (w'.alloc (.cells #[.iface 28 (.agg CS), .iface 57 (.agg ((liT []).cells (.slice ra 256 rc))), .iface 57 (.agg ((liT []).cells (.slice ra 256 rc))), .iface 57 (.agg ((liT []).cells (.slice ra 256 rc)))] 69)) := hw'.alloc hw'.size _
                    have hA := bstep HA22.out hbA (Nat.le_refl _)
                    have hW := bstep HB5.out hA (Nat.le_refl _)
                    exact cF29 _ 4 _ (rd_lit [(⟨[.iface 28 (.agg CS)], rfl⟩ : Row 1), ⟨[.iface 57 (.agg ((liT []).cells (.slice ra 256 rc)))], rfl⟩, ⟨[.iface 57 (.agg ((liT []).cells (.slice ra 256 rc)))], rfl⟩, ⟨[.iface 57 (.agg ((liT []).cells (.slice ra 256 rc)))], rfl⟩] _ _ 4 rfl rfl (by decide) (.cons ⟨CS, rfl, fd_sta (last_fdSta _ _ _ _ HSTA.out hA)⟩ (.cons (⟨((liT []).cells (.slice ra 256 rc)), rfl, ra, rc, by show _ = ((liT RR).cells (.slice ra RR.length rc)).toList; rw [hl256]; rfl, Q22.out.keep hbA (Nat.le_refl _)⟩) (.cons (⟨((liT []).cells (.slice ra 256 rc)), rfl, ra, rc, by show _ = ((liT RR).cells (.slice ra RR.length rc)).toList; rw [hl256]; rfl, Q22.out.keep hbA (Nat.le_refl _)⟩) (.cons (⟨((liT []).cells (.slice ra 256 rc)), rfl, ra, rc, by show _ = ((liT RR).cells (.slice ra RR.length rc)).toList; rw [hl256]; rfl, Q22.out.keep hbA (Nat.le_refl _)⟩) (.nil)))))) (HTU.out _ hW) (HPT.out _ hW)
                  have HQ := Lib.hid hcf29
                  generalize filT (liD [] [liT RR, liT RR, liT RR]) = T29 at *
                  clear hcf29 cF29 hok29
                  go_wp2_with fail
                  refine wp_region_held_drew (S := fun w' => Below W22.heap.size W22 w') (by kernel_rfl) ((Below.refl _ _).drew) (fun hHeld => ?_)
                  refine held_take 0 (v := ?_) rfl (by kernel_rfl) (by kernel_rfl) (by kernel_rfl) (fun _ _ _ h => h) (by assumption) ?_ ?_
                  rotate_left
                  · first | (refine Or.inr ⟨?_, ?_⟩ <;> rfl) | (refine Or.inl ⟨by rfl, ?_⟩; intro w hSw; (try dsimp only at hSw); first | (go_simp; done) | (go_simp; with_reducible rfl))
                  try simp only [Act.put, List.setIfInBounds_toArray, List.set_cons_zero, List.set_cons_succ]
                  refine held_take 1 (v := ?_) rfl (by kernel_rfl) (by kernel_rfl) (by kernel_rfl) (fun _ _ _ h => h) (by assumption) ?_ ?_
                  rotate_left
                  · first | (refine Or.inr ⟨?_, ?_⟩ <;> rfl) | (refine Or.inl ⟨by rfl, ?_⟩; intro w hSw; (try dsimp only at hSw); first | (go_simp; done) | (go_simp; with_reducible rfl))
                  try simp only [Act.put, List.setIfInBounds_toArray, List.set_cons_zero, List.set_cons_succ]
                  refine held_take 2 (v := ?_) rfl (by kernel_rfl) (by kernel_rfl) (by kernel_rfl) (fun _ _ _ h => h) (by assumption) ?_ ?_
                  rotate_left
                  · first | (refine Or.inr ⟨?_, ?_⟩ <;> rfl) | (refine Or.inl ⟨by rfl, ?_⟩; intro w hSw; (try dsimp only at hSw); have c0 := cell_keep' f0 hSw; first | (go_simp; done) | (go_simp; with_reducible rfl))
                  try simp only [Act.put, List.setIfInBounds_toArray, List.set_cons_zero, List.set_cons_succ]
                  refine held_take 3 (v := .agg ((liT []).cells (.slice ra 256 rc))) rfl (by kernel_rfl) (by kernel_rfl) (by kernel_rfl) (fun _ _ _ h => h) (by assumption) (yields_loadS (fun w hw => b15.keep hw (Nat.le_refl _)) 57 (.tmp 15) huT (by rw [s15]; exact tab_size)) ?_
                  try simp only [Act.put, List.setIfInBounds_toArray, List.set_cons_zero, List.set_cons_succ]
                  refine held_take 4 (v := ?_) rfl (by kernel_rfl) (by kernel_rfl) (by kernel_rfl) (fun _ _ _ h => h) (by assumption) ?_ ?_
                  rotate_left
                  · first | (refine Or.inr ⟨?_, ?_⟩ <;> rfl) | (refine Or.inl ⟨by rfl, ?_⟩; intro w hSw; (try dsimp only at hSw); first | (go_simp; done) | (go_simp; with_reducible rfl))
                  try simp only [Act.put, List.setIfInBounds_toArray, List.set_cons_zero, List.set_cons_succ]
                  refine held_take 5 (v := .agg ((liT []).cells (.slice ra 256 rc))) rfl (by kernel_rfl) (by kernel_rfl) (by kernel_rfl) (fun _ _ _ h => h) (by assumption) (yields_loadS (fun w hw => b15.keep hw (Nat.le_refl _)) 57 (.tmp 15) huT (by rw [s15]; exact tab_size)) ?_
                  try simp only [Act.put, List.setIfInBounds_toArray, List.set_cons_zero, List.set_cons_succ]
                  refine held_take 6 (v := ?_) rfl (by kernel_rfl) (by kernel_rfl) (by kernel_rfl) (fun _ _ _ h => h) (by assumption) ?_ ?_
                  rotate_left
                  · first | (refine Or.inr ⟨?_, ?_⟩ <;> rfl) | (refine Or.inl ⟨by rfl, ?_⟩; intro w hSw; (try dsimp only at hSw); first | (go_simp; done) | (go_simp; with_reducible rfl))
                  try simp only [Act.put, List.setIfInBounds_toArray, List.set_cons_zero, List.set_cons_succ]
                  refine held_take 7 (v := .agg ((liT []).cells (.slice ra 256 rc))) rfl (by kernel_rfl) (by kernel_rfl) (by kernel_rfl) (fun _ _ _ h => h) (by assumption) (yields_loadS (fun w hw => b15.keep hw (Nat.le_refl _)) 57 (.tmp 15) huT (by rw [s15]; exact tab_size)) ?_
                  try simp only [Act.put, List.setIfInBounds_toArray, List.set_cons_zero, List.set_cons_succ]
                  refine held_take 8 (v := ?_) rfl (by kernel_rfl) (by kernel_rfl) (by kernel_rfl) (fun _ _ _ h => h) (by assumption) ?_ ?_
                  rotate_left
                  · first | (refine Or.inr ⟨?_, ?_⟩ <;> rfl) | (refine Or.inl ⟨by rfl, ?_⟩; intro w hSw; (try dsimp only at hSw); first | (go_simp; done) | (go_simp; with_reducible rfl))
                  try simp only [Act.put, List.setIfInBounds_toArray, List.set_cons_zero, List.set_cons_succ]
                  refine held_call 9 rfl (by kernel_rfl) (fun K hK => ?_)
                  go_simp
                  refine hK.out _ _ ?_ (fun hHeld2 => ?_)
                  · exact hHeld.alloc (by first | exact hHeld.size | simp) _
                  clear hK K
                  try simp only [Act.put, List.setIfInBounds_toArray, List.set_cons_zero, List.set_cons_succ]
                  refine held_call 10 rfl (by kernel_rfl) (fun K hK => ?_)
                  go_simp
                  have hq := HQ.out _ hHeld
                  try rw [show W22.drew.heap.size = W22.heap.size from rfl] at hq
                  refine hq.mono ?_
                  clear hq HQ
                  rintro e wq29 ⟨rfl, hb⟩
                  refine hK.out _ _ ?_ (fun hHeld3 => ?_)
                  · exact bstep hHeld2 hb (Nat.le_refl _)
                  clear hK K hHeld hHeld2 hb
                  try simp only [Act.put, List.setIfInBounds_toArray, List.set_cons_zero, List.set_cons_succ]
                  refine held_take 11 (v := ?_) rfl (by kernel_rfl) (by kernel_rfl) (by kernel_rfl) (fun _ _ _ h => h) (by assumption) ?_ ?_
                  rotate_left
                  · first | (refine Or.inr ⟨?_, ?_⟩ <;> rfl) | (refine Or.inl ⟨by rfl, ?_⟩; intro w hSw; (try dsimp only at hSw); first | (go_simp; done) | (go_simp; with_reducible rfl))
                  try simp only [Act.put, List.setIfInBounds_toArray, List.set_cons_zero, List.set_cons_succ]
                  refine held_take 12 (v := ?_) rfl (by kernel_rfl) (by kernel_rfl) (by kernel_rfl) (fun _ _ _ h => h) (by assumption) ?_ ?_
                  rotate_left
                  · first | (refine Or.inr ⟨?_, ?_⟩ <;> rfl) | (refine Or.inl ⟨by rfl, ?_⟩; intro w hSw; (try dsimp only at hSw); first | (go_simp; done) | (go_simp; with_reducible rfl))
                  try simp only [Act.put, List.setIfInBounds_toArray, List.set_cons_zero, List.set_cons_succ]
                  refine held_take 13 (v := ?_) rfl (by kernel_rfl) (by kernel_rfl) (by kernel_rfl) (fun _ _ _ h => h) (by assumption) ?_ ?_
                  rotate_left
                  · first | (refine Or.inr ⟨?_, ?_⟩ <;> rfl) | (refine Or.inl ⟨by rfl, ?_⟩; intro w hSw; (try dsimp only at hSw); first | (go_simp; done) | (go_simp; with_reducible rfl))
                  try simp only [Act.put, List.setIfInBounds_toArray, List.set_cons_zero, List.set_cons_succ]
                  refine held_take 14 (v := ?_) rfl (by kernel_rfl) (by kernel_rfl) (by kernel_rfl) (fun _ _ _ h => h) (by assumption) ?_ ?_
                  rotate_left
                  · first | (refine Or.inr ⟨?_, ?_⟩ <;> rfl) | (refine Or.inl ⟨by rfl, ?_⟩; intro w hSw; (try dsimp only at hSw); first | (go_simp; done) | (go_simp; with_reducible rfl))
                  try simp only [Act.put, List.setIfInBounds_toArray, List.set_cons_zero, List.set_cons_succ]
                  refine held_take 15 (v := ?_) rfl (by kernel_rfl) (by kernel_rfl) (by kernel_rfl) (fun _ _ _ h => h) (by assumption) ?_ ?_
                  rotate_left
                  · first | (refine Or.inr ⟨?_, ?_⟩ <;> rfl) | (refine Or.inl ⟨by rfl, ?_⟩; intro w hSw; (try dsimp only at hSw); first | (go_simp; done) | (go_simp; with_reducible rfl))
                  try simp only [Act.put, List.setIfInBounds_toArray, List.set_cons_zero, List.set_cons_succ]
                  refine wpAnyH_done (by kernel_rfl) ?_ _
                  have hb29 := hHeld3
                  clear hHeld3
                  have hok30 := liD_ok [] [liT RR, liT RR, liT RR, liT RR] (Nat.zero_le _) (fun m hm => by cases hm) (by show (4 : Nat) ≤ _; decide) (fun t ht => by
                    have e : t = liT RR := by simpa using ht
                    rw [e]
                    exact HTB.out)
                  have cF30 := file_parts _ hok30.1 hok30.2 5 rfl
                  rw [fil_em (show filN (liD [] [liT RR, liT RR, liT RR, liT RR]) = 5 from (by show filN (liD [] (List.replicate 4 (liT RR))) = 5; rw [HRR.out]; exact li_four)) (by decide), show filN (liD [] [liT RR, liT RR, liT RR, liT RR]) = 5 from (by show filN (liD [] (List.replicate 4 (liT RR))) = 5; rw [HRR.out]; exact li_four), if_neg (by decide)] at cF30
                  have hcf30 : ∀ w', Below W22.heap.size W22 w' → Calls Tryz.prog 7 #[.slice (some ⟨w'.heap.size, 0, none⟩) 5 5] (w'.alloc (.cells #[.iface 28 (.agg CS), .iface 57 (.agg ((liT []).cells (.slice ra 256 rc))), .iface 57 (.agg ((liT []).cells (.slice ra 256 rc))), .iface 57 (.agg ((liT []).cells (.slice ra 256 rc))), .iface 57 (.agg ((liT []).cells (.slice ra 256 rc)))] 69)) fun e w'' => e = .returned (.tuple #[.string ⟨#[]⟩, errV 5]) ∧ Below (w'.alloc (.cells #[.iface 28 (.agg CS), .iface 57 (.agg ((liT []).cells (.slice ra 256 rc))), .iface 57 (.agg ((liT []).cells (.slice ra 256 rc))), .iface 57 (.agg ((liT []).cells (.slice ra 256 rc))), .iface 57 (.agg ((liT []).cells (.slice ra 256 rc)))] 69)).heap.size (w'.alloc (.cells #[.iface 28 (.agg CS), .iface 57 (.agg ((liT []).cells (.slice ra 256 rc))), .iface 57 (.agg ((liT []).cells (.slice ra 256 rc))), .iface 57 (.agg ((liT []).cells (.slice ra 256 rc))), .iface 57 (.agg ((liT []).cells (.slice ra 256 rc)))] 69)) w'' := fun w' hw' => by
                    have hbA : Below W22.heap.size W22 (w'.alloc (.cells #[.iface 28 (.agg CS), .iface 57 (.agg ((liT []).cells (.slice ra 256 rc))), .iface 57 (.agg ((liT []).cells (.slice ra 256 rc))), .iface 57 (.agg ((liT []).cells (.slice ra 256 rc))), .iface 57 (.agg ((liT []).cells (.slice ra 256 rc)))] 69)) := hw'.alloc hw'.size _
                    have hA := bstep HA22.out hbA (Nat.le_refl _)
                    have hW := bstep HB5.out hA (Nat.le_refl _)
                    exact cF30 _ 5 _ (rd_lit [(⟨[.iface 28 (.agg CS)], rfl⟩ : Row 1), ⟨[.iface 57 (.agg ((liT []).cells (.slice ra 256 rc)))], rfl⟩, ⟨[.iface 57 (.agg ((liT []).cells (.slice ra 256 rc)))], rfl⟩, ⟨[.iface 57 (.agg ((liT []).cells (.slice ra 256 rc)))], rfl⟩, ⟨[.iface 57 (.agg ((liT []).cells (.slice ra 256 rc)))], rfl⟩] _ _ 5 rfl rfl (by decide) (.cons ⟨CS, rfl, fd_sta (last_fdSta _ _ _ _ HSTA.out hA)⟩ (.cons (⟨((liT []).cells (.slice ra 256 rc)), rfl, ra, rc, by show _ = ((liT RR).cells (.slice ra RR.length rc)).toList; rw [hl256]; rfl, Q22.out.keep hbA (Nat.le_refl _)⟩) (.cons (⟨((liT []).cells (.slice ra 256 rc)), rfl, ra, rc, by show _ = ((liT RR).cells (.slice ra RR.length rc)).toList; rw [hl256]; rfl, Q22.out.keep hbA (Nat.le_refl _)⟩) (.cons (⟨((liT []).cells (.slice ra 256 rc)), rfl, ra, rc, by show _ = ((liT RR).cells (.slice ra RR.length rc)).toList; rw [hl256]; rfl, Q22.out.keep hbA (Nat.le_refl _)⟩) (.cons (⟨((liT []).cells (.slice ra 256 rc)), rfl, ra, rc, by show _ = ((liT RR).cells (.slice ra RR.length rc)).toList; rw [hl256]; rfl, Q22.out.keep hbA (Nat.le_refl _)⟩) (.nil))))))) (HTU.out _ hW) (HPT.out _ hW)
                  have HQ := Lib.hid hcf30
                  clear hcf30 cF30 hok30
                  go_wp2_with fail
                  refine wp_region_held_drew (S := fun w' => Below W22.heap.size W22 w') (by kernel_rfl) hb29.drew (fun hHeld => ?_)
                  refine held_take 0 (v := ?_) rfl (by kernel_rfl) (by kernel_rfl) (by kernel_rfl) (fun _ _ _ h => h) (by assumption) ?_ ?_
                  rotate_left
                  · first | (refine Or.inr ⟨?_, ?_⟩ <;> rfl) | (refine Or.inl ⟨by rfl, ?_⟩; intro w hSw; (try dsimp only at hSw); first | (go_simp; done) | (go_simp; with_reducible rfl))
                  try simp only [Act.put, List.setIfInBounds_toArray, List.set_cons_zero, List.set_cons_succ]
                  refine held_take 1 (v := ?_) rfl (by kernel_rfl) (by kernel_rfl) (by kernel_rfl) (fun _ _ _ h => h) (by assumption) ?_ ?_
                  rotate_left
                  · first | (refine Or.inr ⟨?_, ?_⟩ <;> rfl) | (refine Or.inl ⟨by rfl, ?_⟩; intro w hSw; (try dsimp only at hSw); first | (go_simp; done) | (go_simp; with_reducible rfl))
                  try simp only [Act.put, List.setIfInBounds_toArray, List.set_cons_zero, List.set_cons_succ]
                  refine held_take 2 (v := ?_) rfl (by kernel_rfl) (by kernel_rfl) (by kernel_rfl) (fun _ _ _ h => h) (by assumption) ?_ ?_
                  rotate_left
                  · first | (refine Or.inr ⟨?_, ?_⟩ <;> rfl) | (refine Or.inl ⟨by rfl, ?_⟩; intro w hSw; (try dsimp only at hSw); have c0 := cell_keep' f0 hSw; first | (go_simp; done) | (go_simp; with_reducible rfl))
                  try simp only [Act.put, List.setIfInBounds_toArray, List.set_cons_zero, List.set_cons_succ]
                  refine held_take 3 (v := .agg ((liT []).cells (.slice ra 256 rc))) rfl (by kernel_rfl) (by kernel_rfl) (by kernel_rfl) (fun _ _ _ h => h) (by assumption) (yields_loadS (fun w hw => b15.keep hw (Nat.le_refl _)) 57 (.tmp 15) huT (by rw [s15]; exact tab_size)) ?_
                  try simp only [Act.put, List.setIfInBounds_toArray, List.set_cons_zero, List.set_cons_succ]
                  refine held_take 4 (v := ?_) rfl (by kernel_rfl) (by kernel_rfl) (by kernel_rfl) (fun _ _ _ h => h) (by assumption) ?_ ?_
                  rotate_left
                  · first | (refine Or.inr ⟨?_, ?_⟩ <;> rfl) | (refine Or.inl ⟨by rfl, ?_⟩; intro w hSw; (try dsimp only at hSw); first | (go_simp; done) | (go_simp; with_reducible rfl))
                  try simp only [Act.put, List.setIfInBounds_toArray, List.set_cons_zero, List.set_cons_succ]
                  refine held_take 5 (v := .agg ((liT []).cells (.slice ra 256 rc))) rfl (by kernel_rfl) (by kernel_rfl) (by kernel_rfl) (fun _ _ _ h => h) (by assumption) (yields_loadS (fun w hw => b15.keep hw (Nat.le_refl _)) 57 (.tmp 15) huT (by rw [s15]; exact tab_size)) ?_
                  try simp only [Act.put, List.setIfInBounds_toArray, List.set_cons_zero, List.set_cons_succ]
                  refine held_take 6 (v := ?_) rfl (by kernel_rfl) (by kernel_rfl) (by kernel_rfl) (fun _ _ _ h => h) (by assumption) ?_ ?_
                  rotate_left
                  · first | (refine Or.inr ⟨?_, ?_⟩ <;> rfl) | (refine Or.inl ⟨by rfl, ?_⟩; intro w hSw; (try dsimp only at hSw); first | (go_simp; done) | (go_simp; with_reducible rfl))
                  try simp only [Act.put, List.setIfInBounds_toArray, List.set_cons_zero, List.set_cons_succ]
                  refine held_take 7 (v := .agg ((liT []).cells (.slice ra 256 rc))) rfl (by kernel_rfl) (by kernel_rfl) (by kernel_rfl) (fun _ _ _ h => h) (by assumption) (yields_loadS (fun w hw => b15.keep hw (Nat.le_refl _)) 57 (.tmp 15) huT (by rw [s15]; exact tab_size)) ?_
                  try simp only [Act.put, List.setIfInBounds_toArray, List.set_cons_zero, List.set_cons_succ]
                  refine held_take 8 (v := ?_) rfl (by kernel_rfl) (by kernel_rfl) (by kernel_rfl) (fun _ _ _ h => h) (by assumption) ?_ ?_
                  rotate_left
                  · first | (refine Or.inr ⟨?_, ?_⟩ <;> rfl) | (refine Or.inl ⟨by rfl, ?_⟩; intro w hSw; (try dsimp only at hSw); first | (go_simp; done) | (go_simp; with_reducible rfl))
                  try simp only [Act.put, List.setIfInBounds_toArray, List.set_cons_zero, List.set_cons_succ]
                  refine held_take 9 (v := .agg ((liT []).cells (.slice ra 256 rc))) rfl (by kernel_rfl) (by kernel_rfl) (by kernel_rfl) (fun _ _ _ h => h) (by assumption) (yields_loadS (fun w hw => b15.keep hw (Nat.le_refl _)) 57 (.tmp 15) huT (by rw [s15]; exact tab_size)) ?_
                  try simp only [Act.put, List.setIfInBounds_toArray, List.set_cons_zero, List.set_cons_succ]
                  refine held_take 10 (v := ?_) rfl (by kernel_rfl) (by kernel_rfl) (by kernel_rfl) (fun _ _ _ h => h) (by assumption) ?_ ?_
                  rotate_left
                  · first | (refine Or.inr ⟨?_, ?_⟩ <;> rfl) | (refine Or.inl ⟨by rfl, ?_⟩; intro w hSw; (try dsimp only at hSw); first | (go_simp; done) | (go_simp; with_reducible rfl))
                  try simp only [Act.put, List.setIfInBounds_toArray, List.set_cons_zero, List.set_cons_succ]
                  refine held_call 11 rfl (by kernel_rfl) (fun K hK => ?_)
                  go_simp
                  refine hK.out _ _ ?_ (fun hHeld2 => ?_)
                  · exact hHeld.alloc (by first | exact hHeld.size | simp) _
                  clear hK K
                  try simp only [Act.put, List.setIfInBounds_toArray, List.set_cons_zero, List.set_cons_succ]
                  refine held_call 12 rfl (by kernel_rfl) (fun K hK => ?_)
                  go_simp
                  have hq := HQ.out _ hHeld
                  try rw [show wq29.drew.heap.size = wq29.heap.size from rfl] at hq
                  refine hq.mono ?_
                  clear hq HQ
                  rintro e wq30 ⟨rfl, hb⟩
                  refine hK.out _ _ ?_ (fun hHeld3 => ?_)
                  · exact bstep hHeld2 hb (Nat.le_refl _)
                  clear hK K hHeld hHeld2 hb
                  try simp only [Act.put, List.setIfInBounds_toArray, List.set_cons_zero, List.set_cons_succ]
                  refine held_take 13 (v := ?_) rfl (by kernel_rfl) (by kernel_rfl) (by kernel_rfl) (fun _ _ _ h => h) (by assumption) ?_ ?_
                  rotate_left
                  · first | (refine Or.inr ⟨?_, ?_⟩ <;> rfl) | (refine Or.inl ⟨by rfl, ?_⟩; intro w hSw; (try dsimp only at hSw); first | (go_simp; done) | (go_simp; with_reducible rfl))
                  try simp only [Act.put, List.setIfInBounds_toArray, List.set_cons_zero, List.set_cons_succ]
                  refine held_take 14 (v := ?_) rfl (by kernel_rfl) (by kernel_rfl) (by kernel_rfl) (fun _ _ _ h => h) (by assumption) ?_ ?_
                  rotate_left
                  · first | (refine Or.inr ⟨?_, ?_⟩ <;> rfl) | (refine Or.inl ⟨by rfl, ?_⟩; intro w hSw; (try dsimp only at hSw); first | (go_simp; done) | (go_simp; with_reducible rfl))
                  try simp only [Act.put, List.setIfInBounds_toArray, List.set_cons_zero, List.set_cons_succ]
                  refine held_take 15 (v := ?_) rfl (by kernel_rfl) (by kernel_rfl) (by kernel_rfl) (fun _ _ _ h => h) (by assumption) ?_ ?_
                  rotate_left
                  · first | (refine Or.inr ⟨?_, ?_⟩ <;> rfl) | (refine Or.inl ⟨by rfl, ?_⟩; intro w hSw; (try dsimp only at hSw); first | (go_simp; done) | (go_simp; with_reducible rfl))
                  try simp only [Act.put, List.setIfInBounds_toArray, List.set_cons_zero, List.set_cons_succ]
                  refine held_take 16 (v := ?_) rfl (by kernel_rfl) (by kernel_rfl) (by kernel_rfl) (fun _ _ _ h => h) (by assumption) ?_ ?_
                  rotate_left
                  · first | (refine Or.inr ⟨?_, ?_⟩ <;> rfl) | (refine Or.inl ⟨by rfl, ?_⟩; intro w hSw; (try dsimp only at hSw); first | (go_simp; done) | (go_simp; with_reducible rfl))
                  try simp only [Act.put, List.setIfInBounds_toArray, List.set_cons_zero, List.set_cons_succ]
                  refine held_take 17 (v := ?_) rfl (by kernel_rfl) (by kernel_rfl) (by kernel_rfl) (fun _ _ _ h => h) (by assumption) ?_ ?_
                  rotate_left
                  · first | (refine Or.inr ⟨?_, ?_⟩ <;> rfl) | (refine Or.inl ⟨by rfl, ?_⟩; intro w hSw; (try dsimp only at hSw); first | (go_simp; done) | (go_simp; with_reducible rfl))
                  try simp only [Act.put, List.setIfInBounds_toArray, List.set_cons_zero, List.set_cons_succ]
                  refine wpAnyH_done (by kernel_rfl) ?_ _
                  have hb30 := hHeld3
                  clear hHeld3 hb29
                  have hok31 := liD_ok [] [liT (RR ++ [((0 : Int), ([] : List UInt8))])] (Nat.zero_le _) (fun m hm => by cases hm) (by show (1 : Nat) ≤ _; decide) (fun t ht => by rw [List.mem_singleton.1 ht]; exact HTM.out)
                  have cF31 := file_parts _ hok31.1 hok31.2 2 rfl
                  rw [fil_em (show filN (liD [] [liT (RR ++ [((0 : Int), ([] : List UInt8))])]) = 4 from (by rw [HRR.out]; exact li_rows)) (by decide), show filN (liD [] [liT (RR ++ [((0 : Int), ([] : List UInt8))])]) = 4 from (by rw [HRR.out]; exact li_rows), if_neg (by decide)] at cF31
                  have hcf31 : ∀ w', Below W22.heap.size W22 w' → Calls Tryz.prog 7 #[.slice (some ⟨w'.heap.size, 0, none⟩) 2 2] (w'.alloc (.cells #[.iface 28 (.agg CS), .iface 57 (.agg ((liT []).cells (.slice ra' 257 rc')))] 69)) fun e w'' => e = .returned (.tuple #[.string ⟨#[]⟩, errV 4]) ∧ Below (w'.alloc (.cells #[.iface 28 (.agg CS), .iface 57 (.agg ((liT []).cells (.slice ra' 257 rc')))] 69)).heap.size (w'.alloc (.cells #[.iface 28 (.agg CS), .iface 57 (.agg ((liT []).cells (.slice ra' 257 rc')))] 69)) w'' := fun w' hw' => by
                    have hbA : Below W22.heap.size W22 (w'.alloc (.cells #[.iface 28 (.agg CS), .iface 57 (.agg ((liT []).cells (.slice ra' 257 rc')))] 69)) := hw'.alloc hw'.size _
                    have hA := bstep HA22.out hbA (Nat.le_refl _)
                    have hW := bstep HB5.out hA (Nat.le_refl _)
                    exact cF31 _ 2 _ (rd_lit [(⟨[.iface 28 (.agg CS)], rfl⟩ : Row 1), ⟨[.iface 57 (.agg ((liT []).cells (.slice ra' 257 rc')))], rfl⟩] _ _ 2 rfl rfl (by decide) (.cons ⟨CS, rfl, fd_sta (last_fdSta _ _ _ _ HSTA.out hA)⟩ (.cons (⟨((liT []).cells (.slice ra' 257 rc')), rfl, ra', rc', by show _ = ((liT (RR ++ [((0 : Int), ([] : List UInt8))])).cells (.slice ra' (RR ++ [((0 : Int), ([] : List UInt8))]).length rc')).toList; rw [hl257]; rfl, Q23.out.keep hbA (Nat.le_refl _)⟩) (.nil)))) (HTU.out _ hW) (HPT.out _ hW)
                  have HQ := Lib.hid hcf31
                  clear hcf31 cF31 hok31
                  go_wp2_with fail
                  refine wp_region_held_drew (S := fun w' => Below W22.heap.size W22 w') (by kernel_rfl) hb30.drew (fun hHeld => ?_)
                  refine held_take 0 (v := ?_) rfl (by kernel_rfl) (by kernel_rfl) (by kernel_rfl) (fun _ _ _ h => h) (by assumption) ?_ ?_
                  rotate_left
                  · first | (refine Or.inr ⟨?_, ?_⟩ <;> rfl) | (refine Or.inl ⟨by rfl, ?_⟩; intro w hSw; (try dsimp only at hSw); first | (go_simp; done) | (go_simp; with_reducible rfl))
                  try simp only [Act.put, List.setIfInBounds_toArray, List.set_cons_zero, List.set_cons_succ]
                  refine held_take 1 (v := ?_) rfl (by kernel_rfl) (by kernel_rfl) (by kernel_rfl) (fun _ _ _ h => h) (by assumption) ?_ ?_
                  rotate_left
                  · first | (refine Or.inr ⟨?_, ?_⟩ <;> rfl) | (refine Or.inl ⟨by rfl, ?_⟩; intro w hSw; (try dsimp only at hSw); first | (go_simp; done) | (go_simp; with_reducible rfl))
                  try simp only [Act.put, List.setIfInBounds_toArray, List.set_cons_zero, List.set_cons_succ]
                  refine held_take 2 (v := ?_) rfl (by kernel_rfl) (by kernel_rfl) (by kernel_rfl) (fun _ _ _ h => h) (by assumption) ?_ ?_
                  rotate_left
                  · first | (refine Or.inr ⟨?_, ?_⟩ <;> rfl) | (refine Or.inl ⟨by rfl, ?_⟩; intro w hSw; (try dsimp only at hSw); have c0 := cell_keep' f0 hSw; first | (go_simp; done) | (go_simp; with_reducible rfl))
                  try simp only [Act.put, List.setIfInBounds_toArray, List.set_cons_zero, List.set_cons_succ]
                  refine held_take 3 (v := .agg ((liT []).cells (.slice ra' 257 rc'))) rfl (by kernel_rfl) (by kernel_rfl) (by kernel_rfl) (fun _ _ _ h => h) (by assumption) (yields_loadS (fun w hw => b18.keep hw (Nat.le_refl _)) 57 (.tmp 18) huT (by rw [s15]; exact tab_size)) ?_
                  try simp only [Act.put, List.setIfInBounds_toArray, List.set_cons_zero, List.set_cons_succ]
                  refine held_take 4 (v := ?_) rfl (by kernel_rfl) (by kernel_rfl) (by kernel_rfl) (fun _ _ _ h => h) (by assumption) ?_ ?_
                  rotate_left
                  · first | (refine Or.inr ⟨?_, ?_⟩ <;> rfl) | (refine Or.inl ⟨by rfl, ?_⟩; intro w hSw; (try dsimp only at hSw); first | (go_simp; done) | (go_simp; with_reducible rfl))
                  try simp only [Act.put, List.setIfInBounds_toArray, List.set_cons_zero, List.set_cons_succ]
                  refine held_call 5 rfl (by kernel_rfl) (fun K hK => ?_)
                  go_simp
                  refine hK.out _ _ ?_ (fun hHeld2 => ?_)
                  · exact hHeld.alloc (by first | exact hHeld.size | simp) _
                  clear hK K
                  try simp only [Act.put, List.setIfInBounds_toArray, List.set_cons_zero, List.set_cons_succ]
                  refine held_call 6 rfl (by kernel_rfl) (fun K hK => ?_)
                  go_simp
                  have hq := HQ.out _ hHeld
                  try rw [show wq30.drew.heap.size = wq30.heap.size from rfl] at hq
                  refine hq.mono ?_
                  clear hq HQ
                  rintro e wq31 ⟨rfl, hb⟩
                  refine hK.out _ _ ?_ (fun hHeld3 => ?_)
                  · exact bstep hHeld2 hb (Nat.le_refl _)
                  clear hK K hHeld hHeld2 hb
                  try simp only [Act.put, List.setIfInBounds_toArray, List.set_cons_zero, List.set_cons_succ]
                  refine held_take 7 (v := ?_) rfl (by kernel_rfl) (by kernel_rfl) (by kernel_rfl) (fun _ _ _ h => h) (by assumption) ?_ ?_
                  rotate_left
                  · first | (refine Or.inr ⟨?_, ?_⟩ <;> rfl) | (refine Or.inl ⟨by rfl, ?_⟩; intro w hSw; (try dsimp only at hSw); first | (go_simp; done) | (go_simp; with_reducible rfl))
                  try simp only [Act.put, List.setIfInBounds_toArray, List.set_cons_zero, List.set_cons_succ]
                  refine held_take 8 (v := ?_) rfl (by kernel_rfl) (by kernel_rfl) (by kernel_rfl) (fun _ _ _ h => h) (by assumption) ?_ ?_
                  rotate_left
                  · first | (refine Or.inr ⟨?_, ?_⟩ <;> rfl) | (refine Or.inl ⟨by rfl, ?_⟩; intro w hSw; (try dsimp only at hSw); first | (go_simp; done) | (go_simp; with_reducible rfl))
                  try simp only [Act.put, List.setIfInBounds_toArray, List.set_cons_zero, List.set_cons_succ]
                  refine held_take 9 (v := ?_) rfl (by kernel_rfl) (by kernel_rfl) (by kernel_rfl) (fun _ _ _ h => h) (by assumption) ?_ ?_
                  rotate_left
                  · first | (refine Or.inr ⟨?_, ?_⟩ <;> rfl) | (refine Or.inl ⟨by rfl, ?_⟩; intro w hSw; (try dsimp only at hSw); first | (go_simp; done) | (go_simp; with_reducible rfl))
                  try simp only [Act.put, List.setIfInBounds_toArray, List.set_cons_zero, List.set_cons_succ]
                  refine held_take 10 (v := ?_) rfl (by kernel_rfl) (by kernel_rfl) (by kernel_rfl) (fun _ _ _ h => h) (by assumption) ?_ ?_
                  rotate_left
                  · first | (refine Or.inr ⟨?_, ?_⟩ <;> rfl) | (refine Or.inl ⟨by rfl, ?_⟩; intro w hSw; (try dsimp only at hSw); first | (go_simp; done) | (go_simp; with_reducible rfl))
                  try simp only [Act.put, List.setIfInBounds_toArray, List.set_cons_zero, List.set_cons_succ]
                  refine held_take 11 (v := ?_) rfl (by kernel_rfl) (by kernel_rfl) (by kernel_rfl) (fun _ _ _ h => h) (by assumption) ?_ ?_
                  rotate_left
                  · first | (refine Or.inr ⟨?_, ?_⟩ <;> rfl) | (refine Or.inl ⟨by rfl, ?_⟩; intro w hSw; (try dsimp only at hSw); first | (go_simp; done) | (go_simp; with_reducible rfl))
                  try simp only [Act.put, List.setIfInBounds_toArray, List.set_cons_zero, List.set_cons_succ]
                  refine wpAnyH_done (by kernel_rfl) ?_ _
                  have HW31 := Lib.hid (bstep HB5.out (bstep HA22.out hHeld3 (Nat.le_refl _)) (Nat.le_refl _))
                  clear hHeld3 hb30 b15 b18 f0
                  go_wp2_with fail
                  with_reducible refine (CPL.out 4 (by decide) (by decide) _ (HGT.out _ HW31.out)).mono ?_
                  rintro e wr1 ⟨rfl, hb⟩
                  have HR1 := Lib.hid (bstep HW31.out hb (Nat.le_refl _))
                  clear hb
                  go_wp2_with fail
                  with_reducible refine (CPL.out 4 (by decide) (by decide) _ (HGT.out _ HR1.out)).mono ?_
                  rintro e wr2 ⟨rfl, hb⟩
                  have HR2 := Lib.hid (bstep HR1.out hb (Nat.le_refl _))
                  clear hb
                  go_wp2_with fail
                  with_reducible refine (CPL.out 5 (by decide) (by decide) _ (HGT.out _ HR2.out)).mono ?_
                  rintro e wr3 ⟨rfl, hb⟩
                  have HR3 := Lib.hid (bstep HR2.out hb (Nat.le_refl _))
                  clear hb
                  go_wp2_with fail
                  with_reducible refine (CPL.out 4 (by decide) (by decide) _ (HGT.out _ HR3.out)).mono ?_
                  rintro e wr4 ⟨rfl, hb⟩
                  have HR4 := Lib.hid (bstep HR3.out hb (Nat.le_refl _))
                  clear hb
                  go_wp2_with fail
                  go_ret
                  exact ⟨rfl, HR4.out⟩
end Go.Proofs.YtampdbkafkcfdaaGreatDoor
