/-
  ParsePlaces, of any source.
-/
import Derived.Test.YtlacjhjckkablaaGreatDoorWk6A
import Derived.Test.YtlacjhjckkablaaGreatDoorPa6A

namespace Go.Proofs.YtlacjhjckkablaaGreatDoor
set_option linter.unusedVariables false
set_option linter.unusedSimpArgs false
open Go.RowKit Go.Shelf

set_option maxRecDepth 100000 in
set_option maxHeartbeats 8000000 in
theorem parseplaces_bad (s : List UInt8) (T : TypeId) (x : Value) (cF : ∀ w, FileW w → Calls Tryz.prog 5 #[.string ⟨s.toArray⟩] w fun e w' => e = .returned (.tuple #[.slice none 0 0, .iface T x]) ∧ Below w.heap.size w w') (w : World) (hW : FileW w) :
    Calls Tryz.prog 4 #[.string ⟨s.toArray⟩] w fun e w' => e = .returned (.bool true) ∧ Below w.heap.size w w' := by
  have HW := Lib.hid hW
  clear hW
  go_enter Tryz.func4, Tryz.ntmps4
  go_wp2_with fail
  with_reducible refine (cF _ HW.out).mono ?_
  rintro e w1 ⟨rfl, hb⟩
  replace HW := Lib.hid (HW.out.keep hb)
  have HB := Lib.hid hb
  clear hb cF
  go_wp2_with fail
  with_reducible refine (works6_any _ HW.out).mono ?_
  rintro e w2 ⟨rfl, hb⟩
  replace HW := Lib.hid (HW.out.keep hb)
  replace HB := Lib.hid (bstep HB.out hb (Nat.le_refl _))
  clear hb
  go_wp2_with fail
  with_reducible refine (works6_any _ HW.out).mono ?_
  rintro e w3 ⟨rfl, hb⟩
  replace HB := Lib.hid (bstep HB.out hb (Nat.le_refl _))
  clear hb HW
  go_wp2_with fail
  go_ret
  exact ⟨rfl, HB.out⟩
end Go.Proofs.YtlacjhjckkablaaGreatDoor

namespace Go.Proofs.YtlacjhjckkablaaGreatDoor
set_option linter.unusedVariables false
set_option linter.unusedSimpArgs false
open Go.RowKit Go.Shelf

/-- the cells of the heads' places and words -/
theorem two_cells {w0 w : World} {la ua : Option Addr} {n c m cu : Nat} {M : List Mark} (h : Two6 w0 w (.slice la n c) (.slice ua m cu) M) (h0 : 0 < M.length) :
    n = M.length ∧ m = M.length ∧ ∃ lb lo ub uo, la = some ⟨lb, lo, none⟩ ∧ ua = some ⟨ub, uo, none⟩ ∧ ∀ j (hj : j < M.length), w.cell? ⟨lb, lo + j * 2, none⟩ = some (.int .i64 M[j].2.1) ∧ w.cell? ⟨lb, lo + j * 2 + 1, none⟩ = some (.int .i64 M[j].2.2) ∧ w.cell? ⟨ub, uo + j, none⟩ = some (.string ⟨M[j].1.toArray⟩) := by
  obtain ⟨e1, s1⟩ := h.pl.sl
  obtain ⟨e2, s2⟩ := h.wd.sl
  obtain ⟨lb, lo, rfl, -, -⟩ := SlOf.cells s1 (fun _ => rfl) (by decide) h0
  obtain ⟨ub, uo, rfl, -, -⟩ := SlOf.cells s2 (fun _ => rfl) (by decide) h0
  refine ⟨e1, e2, lb, lo, ub, uo, rfl, rfl, fun j hj => ?_⟩
  obtain ⟨b, o, e, -, h3⟩ := SlOf.cells s1 (fun _ => rfl) (by decide) hj
  cases e
  obtain ⟨b, o, e, -, h4⟩ := SlOf.cells s2 (fun _ => rfl) (by decide) hj
  cases e
  refine ⟨?_, ?_, ?_⟩
  · simpa [plV] using h3 0 (by decide)
  · simpa [plV, Nat.add_assoc] using h3 1 (by decide)
  · simpa [wdV] using h4 0 (by decide)
theorem nodes_cells {w : World} {aa : Option Addr} {ca : Nat} {l : List NodeD} (h : SlRd w rdNode 1 aa ca l) (h0 : 0 < l.length) :
    ∃ nb no, aa = some ⟨nb, no, none⟩ ∧ ∀ j (hj : j < l.length), ∃ (v : Value) (f : FuncId) (C : Array Value), w.cell? ⟨nb, no + j, none⟩ = some v ∧ (∀ W : World, (invoke (.fn (.method "Where") #[]) #[v]).run Tryz.prog W = .ok (.enter f #[.agg C]) W) ∧
      ∀ W : World, Calls Tryz.prog f #[.agg C] W fun e w' => e = .returned (.agg #[.int .i64 (headM l[j]).2.1, .int .i64 (headM l[j]).2.2]) ∧ Below W.heap.size W w' := by
  obtain ⟨nb, no, rfl, -⟩ := h.at (by decide) h0
  refine ⟨nb, no, rfl, fun j hj => ?_⟩
  obtain ⟨b, o, e, -, cs, hl, hr, hg⟩ := h.at (by decide) hj
  cases e
  obtain ⟨v, f, C, rfl, h1, h2⟩ := where_node hr
  exact ⟨v, f, C, by simpa using hg 0 v rfl, h1, h2⟩
set_option maxRecDepth 100000 in
set_option maxHeartbeats 8000000 in
theorem parseplaces_good (s : List UInt8) (hs : s.length ≤ 1048576) (d : DbD) (hd : DbBd d 1048577) (hv : VerOK d) (hst : Stands s 0 ((nodsD d).flatMap nodM))
    (cF : ∀ w, FileW w → Calls Tryz.prog 5 #[.string ⟨s.toArray⟩] w fun e w' => ∃ (v : Value) (T : List (NodeD × Nat × Nat)), e = .returned (.tuple #[v, .nilIface]) ∧ OwnRd w' w.heap.size 72 fdNodT 1 v T ∧ T.map Prod.fst = nodsD d ∧ Chn w.heap.size T w'.heap.size ∧ Below w.heap.size w w')
    (w : World) (hW : FileW w) :
    Calls Tryz.prog 4 #[.string ⟨s.toArray⟩] w fun e w' => e = .returned (.bool true) ∧ Below w.heap.size w w' := by
  obtain ⟨f0, hf0, hf1⟩ := (hst.sub (heads_sub (nodsD d))).fn
  have hml := hd.mln
  have htl := hd.tln
  have HMB := Lib.hid (fun m hm => (hd.msg m hm).1)
  have HG : Hid (∀ m ∈ d.msgs, ∃ f : Nat → Nat, (∀ j (hj : j < (msgM m).length), StandsAt s (msgM m)[j] (f j)) ∧ ∀ i j, i < j → j < (msgM m).length → f i < f j) := Lib.hid fun m hm => (hst.sub (msg_sub (by
    unfold nodsD
    exact List.mem_append_right _ (List.mem_cons_of_mem _ (List.mem_append_left _ (List.mem_map_of_mem hm)))))).fn
  obtain ⟨N, hN⟩ : ∃ N, N = (nodsD d).length := ⟨_, rfl⟩
  have hNb : N ≤ 2000000 := by have := nods_len6 hd; omega
  have HNE := Lib.hid hN
  have hN0 : 0 < N := by rw [hN]; unfold nodsD; simp; omega
  have HW := Lib.hid hW
  have HF0 := Lib.hid hf0
  have HF1 := Lib.hid hf1
  have cG := fun (W : World) (n : Nat) (hn : n = (nodsD d).length) a cap hsl => gather6_any d hd hv n hn a cap W hsl
  have cP := fun (W : World) C hC => parts6_any d (by omega) (by omega) C W hC
  have cB := fun (W : World) (n : Nat) (hn : n < s.length) (L C : Int) (hb : Bnd s (1, 1) n (L, C)) => byteAt6_any s (by omega) n hn L C hb W
  have cS := fun (W : World) (t : List UInt8) (k : Nat) (hk : k + t.length ≤ s.length) (ht : (s.drop k).take t.length = t) => stands6_any s t (by omega) k hk ht W
  clear hd hv hst hW hf0 hf1 hN htl
  go_enter Tryz.func4, Tryz.ntmps4
  go_wp2_with fail
  with_reducible refine (cF _ HW.out).mono ?_
  rintro e w1 ⟨va, TA, rfl, hoa, hfa, hca, hb⟩
  obtain ⟨aa, ca, eva, -⟩ := hoa.shape
  rw [show TA.length = N by rw [HNE.out, ← hfa, List.length_map]] at eva
  subst eva
  have HS := Lib.hid (sl_nodes6 hoa hfa)
  replace HW := Lib.hid (HW.out.keep hb)
  have HB := Lib.hid hb
  clear hb hoa hfa hca cF
  go_wp2_with fail
  with_reducible refine (works6_any _ HW.out).mono ?_
  rintro e w2 ⟨rfl, hb⟩
  replace HS := Lib.hid (HS.out.keep last_rdNode hb)
  replace HB := Lib.hid (bstep HB.out hb (Nat.le_refl _))
  clear hb HW
  go_wp2_with fail
  with_reducible refine (cG _ _ HNE.out _ _ HS.out).mono ?_
  rintro e w3 ⟨C, rfl, hC, hb⟩
  obtain ⟨hC9, hC1⟩ := fdDb_shape (b := 0) hC
  replace HS := Lib.hid (HS.out.keep last_rdNode hb)
  replace HB := Lib.hid (bstep HB.out hb (Nat.le_refl _))
  have hba := (Below.refl w3.heap.size w3).alloc (Nat.le_refl _) (.cells C 37)
  have HC := Lib.hid (fd_db (last_fdDb _ _ _ _ hC hba))
  have hbk := Blk.new w3 C 37
  replace HS := Lib.hid (HS.out.keep last_rdNode hba)
  replace HB := Lib.hid (bstep HB.out hba (Nat.le_refl _))
  have hu := Tryz.underlying37
  clear hC hb cG hba
  go_upto_region 7 with (refine wpList_newS (Z := zeroDb) (cs := C) 37 (.tmp 5) (.tmp 35) (by rw [hC9]; exact db_zero) (by rw [hC9]; rfl) hC1 ?_)
  generalize w3.alloc (.cells C 37) = w4 at *
  generalize w3.heap.size = k5 at *
  clear hC1
  go_wp2_with (refine wpList_loadS hbk 37 (.tmp 5) hu (by rw [hC9]; exact db_size) ?_)
  with_reducible refine (cP _ _ HC.out).mono ?_
  rintro e w5 ⟨l, u, rfl, h2⟩
  obtain ⟨la, lc, e1, -⟩ := h2.pl.shape
  subst e1
  obtain ⟨ua, uc, e1, -⟩ := h2.wd.shape
  subst e1
  obtain ⟨-, -, lb, lo, ub, uo, rfl, rfl, hlu⟩ := two_cells h2 (by rw [List.length_map, ← HNE.out]; omega)
  have HLU := Lib.hid hlu
  have hb := h2.bel
  obtain ⟨nb, no, rfl, hnc⟩ := nodes_cells (HS.out.keep last_rdNode hb) (by rw [← HNE.out]; omega)
  have HNC := Lib.hid hnc
  have hln : ((nodsD d).map headM).length = N := by rw [List.length_map, HNE.out]
  rw [hln]
  have HLN := Lib.hid hln
  replace HC := Lib.hid (last_rdDb _ _ _ _ HC.out hb)
  replace HB := Lib.hid (bstep HB.out hb (Nat.le_refl _))
  have HK := Lib.hid (hbk.keep hb (Nat.le_refl _))
  clear h2 hlu hb hbk cP hln hnc
  go_upto_region 11 with fail
  go_wp2_with fail
  clear HS
  go_loopw [9, 10, 11] (fun last iv av wr => ∃ i : Nat, i ≤ N ∧ iv = .int .i64 (i : Nat) ∧ (∃ z : Int, last = .int .i64 z ∧ ∀ j, i ≤ j → j < N → z < (f0 j : Nat)) ∧ Below w5.heap.size w5 wr) (fun _ iv _ _ => N - (intOf iv).toNat)
  case atStart => exact ⟨0, Nat.zero_le _, rfl, ⟨-1, rfl, fun j _ _ => by omega⟩, Below.refl _ _⟩
  case round =>
    obtain ⟨i, hi, rfl, ⟨z, rfl, hz⟩, hb⟩ := hrel
    by_cases hlt : (i : Int) < N
    · have hlt' : i < N := by omega
      obtain ⟨x1, x2, x3⟩ := HLU.out i (by rw [HLN.out]; exact hlt')
      obtain ⟨v, f, D, x4, hinv, hcall⟩ := HNC.out i (by rw [← HNE.out]; exact hlt')
      have hzi := hz i (Nat.le_refl _) hlt'
      obtain ⟨b1, b2, b3⟩ := HF0.out i (by rw [HLN.out]; exact hlt')
      have hn1 : ∀ j, i + 1 ≤ j → j < N → (f0 i : Int) < (f0 j : Nat) := fun j h1 h2 => by have := HF1.out i j (by omega) (by rw [HLN.out]; exact h2); omega
      rw [List.getElem_map] at x1 x2 x3 b1 b2 b3
      have hl0 := head_len (nodsD d)[i]
      have q1 := cell_keep' x1 hb
      have q2 := cell_keep' x2 hb
      have q3 := cell_keep' x3 hb
      have q4 := cell_keep' x4 hb
      generalize headM (nodsD d)[i] = M at *
      obtain ⟨tx, Ln, Cn⟩ := M
      dsimp only at *
      have HZ := Lib.hid hz
      have HN1 := Lib.hid hn1
      clear x1 x2 x3 x4 hz hn1
      have hfl : f0 i < s.length := by omega
      go_wp2_with fail
      with_reducible refine (cB _ _ hfl Ln Cn b1).mono ?_
      rintro e w6 ⟨rfl, hb6⟩
      have p1 := cell_keep' q1 hb6
      have p2 := cell_keep' q2 hb6
      have p3 := cell_keep' q3 hb6
      have p4 := cell_keep' q4 hb6
      replace hb := bstep hb hb6 (Nat.le_refl _)
      clear q1 q2 q3 q4 b1 hb6
      go_upto_region 15 with fail
      have l1 := fun x : Later w6 => Later.cell p1 x
      have l2 := fun x : Later w6 => Later.cell p2 x
      have l3 := fun x : Later w6 => Later.cell p3 x
      have l4 := fun x : Later w6 => Later.cell p4 x
      refine wp_region_later0 (by kernel_rfl) (by kernel_rfl) ?_
      repeat (go_big_quiet_step (fail))
      rw [decide_eq_false (show ¬ ((f0 i : Nat) : Int) ≤ z by omega)]
      repeat (first | (refine wpQuiet_invoke (.tmp 78) hinv (fun W hx => by obtain ⟨x, rfl⟩ := hx; exact Later.made (hcall _)) ?_; simp only [Act.put, List.setIfInBounds_toArray, List.set_cons_zero, List.set_cons_succ]) | go_big_quiet_step ((first | (go_at_call 16; with_reducible exact Later.same (cS _ _ _ b2 b3)))))
      refine wpQuiet_nil ?_
      rintro _ ⟨x, rfl⟩
      have HBX := Lib.hid (bstep hb x.below (Nat.le_refl _))
      generalize x.w = w7 at *
      clear l1 l2 l3 l4 p1 p2 p3 p4 hb hcall hinv
      go_wp2_with fail
      go_roundw
      case rel => exact ⟨i + 1, by omega, by go_num, ⟨_, rfl, HN1.out⟩, HBX.out⟩
      case measure => simp [intOf]; omega
    · have HBR := Lib.hid hb
      clear hz hb HF0 HF1 HNC HLU HLN HNE
      obtain ⟨pa, pn, pb, pm, pc, pt, eC, -, hM, -⟩ := HC.out
      have f7 := HK.out.cell 7 (.slice pb d.msgs.length pm) (by rw [Array.toList_inj.1 eC]; rfl)
      have HM := Lib.hid hM
      obtain ⟨mb, mo, me⟩ : ∃ b o, 0 < d.msgs.length → pb = some ⟨b, o, none⟩ := by
        by_cases h0 : 0 < d.msgs.length
        · obtain ⟨b, o, e, -⟩ := hM.at (by decide) h0
          exact ⟨b, o, fun _ => e⟩
        · exact ⟨0, 0, fun h => absurd h h0⟩
      clear hM eC HC HK hC9
      go_wp2_with fail
      go_loopw [9, 12, 13, 14] (fun _ mv _ _ wq => ∃ m : Nat, m ≤ d.msgs.length ∧ mv = .int .i64 (m : Nat) ∧ Below w5.heap.size w5 wq) (fun _ mv _ _ _ => d.msgs.length - (intOf mv).toNat)
      case atStart => exact ⟨0, Nat.zero_le _, rfl, HBR.out⟩
      case round =>
        clear HBR
        obtain ⟨m, hm, rfl, hb⟩ := hrel
        have fr := cell_keep' f7 hb
        by_cases hlt : (m : Int) < d.msgs.length
        · have hlt' : m < d.msgs.length := by omega
          have hpe := me (by omega)
          subst hpe
          obtain ⟨b', o', e', -, cs, hcl, hrd, hrg⟩ := HM.out.at (by decide) hlt'
          cases e'
          obtain ⟨xa, xc, ecs, hsg⟩ := hrd
          have x0 := hrg 0 (.int .i64 d.msgs[m].line) (by rw [ecs]; rfl)
          have x1 := hrg 1 (.int .i64 d.msgs[m].col) (by rw [ecs]; rfl)
          have x7 := hrg 7 (.slice xa d.msgs[m].sigs.length xc) (by rw [ecs]; rfl)
          rw [Nat.add_zero] at x0
          have q0 := cell_keep' x0 hb
          have q1 := cell_keep' x1 hb
          obtain ⟨f, g1, g2⟩ := HG.out d.msgs[m] (List.getElem_mem _)
          have hml2 : (msgM d.msgs[m]).length = d.msgs[m].sigs.length + 1 := by unfold msgM; simp
          obtain ⟨b1, b2, -⟩ := g1 0 (by omega)
          replace b1 : Bnd s (1, 1) (f 0) (d.msgs[m].line, d.msgs[m].col) := b1
          replace b2 : f 0 + 3 ≤ s.length := b2
          have HG1 := Lib.hid (fun j (hj : j < d.msgs[m].sigs.length) => (show StandsAt s (sigM d.msgs[m].sigs[j]) (f (j + 1)) from by have := g1 (j + 1) (by omega); simpa [msgM] using this))
          have HG2 := Lib.hid (fun i j (h1 : i < j) (h2 : j < d.msgs[m].sigs.length + 1) => g2 i j h1 (by omega))
          have HSG := Lib.hid hsg
          have HMM := Lib.hid hlt'
          have hGl := HMB.out d.msgs[m] (List.getElem_mem _)
          have hm2 := hm
          generalize d.msgs[m].line = Ln at *
          generalize d.msgs[m].col = Cn at *
          generalize d.msgs[m].sigs = G at *
          clear g1 g2 hml2 hrg ecs hcl x0 x1 hsg
          have hfl : f 0 < s.length := by omega
          go_wp2_with fail
          with_reducible refine (cB _ _ hfl Ln Cn b1).mono ?_
          rintro e w6 ⟨rfl, hb6⟩
          have HBM := Lib.hid (bstep hb hb6 (Nat.le_refl _))
          clear hb hb6 q0 q1 b1 fr
          obtain ⟨sb, so, se⟩ : ∃ b o, 0 < G.length → xa = some ⟨b, o, none⟩ := by
            by_cases h0 : 0 < G.length
            · obtain ⟨b, o, e, -⟩ := HSG.out.at (by decide) h0
              exact ⟨b, o, fun _ => e⟩
            · exact ⟨0, 0, fun h => absurd h h0⟩
          go_upto_region 22 with fail
          go_wp2_with fail
          go_loopw [9, 13, 14] (fun last sv _ wq => ∃ j : Nat, j ≤ G.length ∧ sv = .int .i64 (j : Nat) ∧ (∃ z : Int, last = .int .i64 z ∧ ∀ t, j ≤ t → t < G.length → z < (f (t + 1) : Nat)) ∧ Below w5.heap.size w5 wq) (fun _ sv _ _ => G.length - (intOf sv).toNat)
          case atStart => exact ⟨0, Nat.zero_le _, rfl, ⟨_, rfl, fun t _ ht => by have := HG2.out 0 (t + 1) (by omega) (by omega); omega⟩, HBM.out⟩
          case round =>
            clear HBM
            obtain ⟨j, hj, rfl, ⟨z, rfl, hz⟩, hb⟩ := hrel
            have fr := cell_keep' f7 hb
            have fs := cell_keep' x7 hb
            by_cases hlt : (j : Int) < G.length
            · have hlt'' : j < G.length := by omega
              have hpe := se (by omega)
              subst hpe
              obtain ⟨b', o', e', -, cs, hcl, hrd, hrg⟩ := HSG.out.at (by decide) hlt''
              cases e'
              obtain ⟨ya, yc, ecs, -⟩ := hrd
              have x0 := hrg 0 (.int .i64 G[j].d.line) (by rw [ecs]; rfl)
              have x1 := hrg 1 (.int .i64 G[j].d.col) (by rw [ecs]; rfl)
              rw [Nat.add_zero] at x0
              have q0 := cell_keep' x0 hb
              have q1 := cell_keep' x1 hb
              obtain ⟨b1, b2, b3⟩ := HG1.out j hlt''
              replace b1 : Bnd s (1, 1) (f (j + 1)) (G[j].d.line, G[j].d.col) := b1
              replace b2 : f (j + 1) + [83, 71, 95].length ≤ s.length := b2
              replace b3 : (s.drop (f (j + 1))).take [83, 71, 95].length = [83, 71, 95] := b3
              have HJ := Lib.hid hlt''
              have hzj := hz j (Nat.le_refl _) hlt''
              have HNX := Lib.hid (show ∀ t, j + 1 ≤ t → t < G.length → ((f (j + 1) : Nat) : Int) < (f (t + 1) : Nat) from fun t h1 h2 => by have := HG2.out (j + 1) (t + 1) (by omega) (by omega); omega)
              have hfj : f (j + 1) < s.length := by simp at b2; omega
              generalize G[j].d.line = Lj at *
              generalize G[j].d.col = Cj at *
              generalize f (j + 1) = fj at *
              clear hz hrg ecs hcl x0 x1
              go_wp2_with fail
              with_reducible refine (cB _ _ hfj Lj Cj b1).mono ?_
              rintro e w6 ⟨rfl, hb6⟩
              have HBQ := Lib.hid (bstep hb hb6 (Nat.le_refl _))
              clear hb hb6 q0 q1 b1 fr fs
              have hle : ¬ (fj : Int) ≤ z := by omega
              go_wp2_with fail
              with_reducible refine (cS _ _ _ b2 b3).mono ?_
              rintro e w7 ⟨rfl, rfl⟩
              go_wp2_with fail
              go_roundw
              case rel => exact ⟨j + 1, HJ.out, by go_num, ⟨_, rfl, HNX.out⟩, HBQ.out⟩
              case measure => have := HJ.out; simp [intOf]; omega
            · have HBQ := Lib.hid hb
              clear hz hb
              go_wp2_with fail
              go_roundw
              case rel => exact ⟨m + 1, HMM.out, by go_num, HBQ.out⟩
              case measure => have := HMM.out; simp [intOf]; omega
        · have HBQ := Lib.hid hb
          clear hb
          go_wp2_with fail
          go_ret
          exact ⟨rfl, bstep HB.out HBQ.out (Nat.le_refl _)⟩
end Go.Proofs.YtlacjhjckkablaaGreatDoor

namespace Go.Proofs.YtlacjhjckkablaaGreatDoor
set_option linter.unusedVariables false
open Go.RowKit Go.Shelf

theorem parseplaces_any (s : List UInt8) (hs : s.length ≤ 9223372036854775807) (w : World) (hW : FileW w) :
    Calls Tryz.prog 4 #[.string ⟨s.toArray⟩] w fun e w' => e = .returned (.bool true) ∧ Below w.heap.size w w' := by
  rcases place_cases s with ⟨T, x, hf⟩ | ⟨d, hd, hv, hf, hst, hl⟩
  · refine parseplaces_bad s T x (fun w hW => (file_any s hs w hW).mono fun e w' h => ?_) w hW
    rw [hf] at h
    exact h
  · refine parseplaces_good s hl d hd hv hst (fun w hW => (file_any s hs w hW).mono fun e w' h => ?_) w hW
    rw [hf] at h
    exact h
theorem parseplaces_str (s : ByteArray) (hs : s.size ≤ 9223372036854775807) (w : World) (hW : FileW w) :
    Calls Tryz.prog 4 #[.string s] w fun e w' => e = .returned (.bool true) ∧ Below w.heap.size w w' := by
  have e : (⟨s.data.toList.toArray⟩ : ByteArray) = s := by cases s; simp
  have h := parseplaces_any s.data.toList (by rw [Array.length_toList]; exact hs) w hW
  rw [e] at h
  exact h
end Go.Proofs.YtlacjhjckkablaaGreatDoor
