/-
  Contract of busbarkit.ApartTokens.
-/
import Derived.Test.YtmifjfohanegiaaGreatDoorBaseC
import Derived.Test.YtmifjfohanegiaaGreatDoorMarkS
import Derived.BigQuiet
namespace Go.Proofs.YtmifjfohanegiaaGreatDoor
set_option linter.unusedVariables false
open Go.RowKit

theorem tokss_ty : SlTy Tryz.prog 136 23 1 24 := SlTy.mk' (.slice none 0 0) Tryz.underlying136 (by kernel_rfl) rfl (by decide) (by decide)

theorem bnd281 (a i : Nat) (h : (a + 64) * 40 ≤ 140737488355328) (hi : i < 64) : a + i ≤ 281474976710656 := by omega
theorem bnd40 (a i : Nat) (h : (a + 64) * 40 ≤ 140737488355328) (hi : i < 64) : (a + i + 1) * 40 ≤ 140737488355328 :=
  Nat.le_trans (Nat.mul_le_mul_right 40 (show a + i + 1 ≤ a + 64 by omega)) h

set_option maxRecDepth 100000 in
set_option maxHeartbeats 16000000 in
theorem apartTokens_any (base m : Nat) (vs : Nat → Value) (xs : Nat → List TokD) (al : Option Addr) (cl : Nat) (w : World) (hm : m ≤ 1000) (hB : base ≤ w.heap.size)
    (ho : ∀ j, j < m → Owns w base 33 4 enTok (vs j) (xs j)) (hap : ∀ i j, i < m → j < m → i ≠ j → Apart (vs i) (vs j))
    (hls : Owns w base 23 1 enV (.slice al m cl) ((List.range m).map vs)) (hr : ∀ j, j < m → ((xs j).length + 64) * 40 ≤ 140737488355328) :
    Calls Tryz.prog 73 #[.slice al m cl] w fun e w' => e = .returned (.bool true) ∧ Below base w w' := by
  have hne : 33 ≠ 23 := by decide
  obtain ⟨n, hn⟩ : ∃ n : Nat → Nat, ∀ j, n j = (xs j).length := ⟨fun j => (xs j).length, fun _ => rfl⟩
  have ha0 : ApA enTok 4 33 23 base m vs (.slice al m cl) w xs w := ⟨Below.refl _ _, ho, hls⟩
  have hp0 : Ph1 m mkTok n 0 0 xs := Ph1.start fun j _ => (hn j).symm
  have hr' : ∀ j, j < m → (n j + 64) * 40 ≤ 140737488355328 := fun j hj => by rw [hn]; exact hr j hj
  clear ho hls hr hn
  go_enter Tryz.func73, Tryz.ntmps73
  go_wp2_with fail
  go_loopw [3] (fun v wr => ∃ k X, k ≤ m ∧ v = .int .i64 (k : Nat) ∧ ApA enTok 4 33 23 base m vs (.slice al m cl) w X wr ∧ Ph1 m mkTok n k 0 X) (fun v _ => m - (intOf v).toNat)
  case atStart => exact ⟨0, xs, Nat.zero_le _, rfl, ha0, hp0⟩
  case round =>
    clear ha0 hp0
    obtain ⟨k, X, hk, rfl, ha, hp⟩ := hrel
    by_cases hlt : k < m
    · go_wp2_with fail
      obtain ⟨bl, ol, rfl, hbl0, hcl0⟩ := SlOf.cell1 ha.ls.sl.2 id (fun _ => rfl) (k := k) (by simpa using hlt)
      go_loopw [4] (fun v wr => ∃ i X, i ≤ n k ∧ v = .int .i64 (i : Nat) ∧ ApA enTok 4 33 23 base m vs (.slice (some ⟨bl, ol, none⟩) m cl) w X wr ∧ Ph1 m mkTok n k i X) (fun v _ => n k - (intOf v).toNat)
      case atStart => exact ⟨0, X, Nat.zero_le _, rfl, ha, hp⟩
      case round =>
        clear ha hp hcl0 hbl0 X
        obtain ⟨i, X, hi, rfl, ha, hp⟩ := hrel
        obtain ⟨bl', ol', hbo, hbl, hcl⟩ := SlOf.cell1 ha.ls.sl.2 id (fun _ => rfl) (k := k) (by simpa using hlt)
        cases hbo
        rw [range_map_get] at hcl
        simp only [id] at hcl
        obtain ⟨av, cv, hv, hsv⟩ := (ha.own k hlt).shape
        rw [hp.len k hlt] at hv
        have hln := hsv.len
        rw [hp.len k hlt] at hln
        rw [hv] at hcl
        by_cases hil : i < n k
        · obtain ⟨g, cv', hv', hbg, hgs, _, _⟩ := (ha.own k hlt).block (by rw [hp.len k hlt]; omega)
          rw [hp.len k hlt] at hv'
          rw [hv] at hv'
          cases hv'
          have hst : ∀ (W : World), (ApA enTok 4 33 23 base m vs (.slice (some ⟨bl, ol, none⟩) m cl) w X W ∨ ApA enTok 4 33 23 base m vs (.slice (some ⟨bl, ol, none⟩) m cl) w (fun j => if j = k then (X k).set i (mkTok k i) else X j) W) → ApA enTok 4 33 23 base m vs (.slice (some ⟨bl, ol, none⟩) m cl) w (fun j => if j = k then (X k).set i (mkTok k i) else X j) (setRow W g (i * 4) (enTok (mkTok k i))) := by
            intro W hW
            rcases hW with h | h
            · exact h.store hap hne enTok_len hlt hv (by rw [hp.len k hlt]; exact hil) _
            · have := h.store hap hne enTok_len hlt hv (i := i) (by simp only [if_true]; rw [List.length_set, hp.len k hlt]; exact hil) (mkTok k i)
              rw [Ph1.again] at this
              exact this
          have hpn := hp.next hlt hil
          obtain ⟨X', hX'⟩ : ∃ X', X' = (fun j => if j = k then (X k).set i (mkTok k i) else X j) := ⟨_, rfl⟩
          rw [← hX'] at hst hpn
          have hroom : ∀ W, (ApA enTok 4 33 23 base m vs (.slice (some ⟨bl, ol, none⟩) m cl) w X W ∨ ApA enTok 4 33 23 base m vs (.slice (some ⟨bl, ol, none⟩) m cl) w X' W) → ∀ j, j < 4 → ∃ u, W.cell? ⟨g, i * 4 + j, none⟩ = some u := fun W hW j hj => by
            rcases hW with h | h
            · exact h.room enTok_len hlt hv (by rw [hp.len k hlt]; exact hil) hj
            · exact h.room enTok_len hlt hv (by rw [hpn.len k hlt]; exact hil) hj
          have hfr : ∀ j, wr.frozen? ⟨g, j, none⟩ = false := by have := ha.own k hlt; rw [hv] at this; exact this.free
          go_wp2_with fail
          refine wp_region_held_drew (S := (fun (w' : World) => Below base w w' ∧ w'.cell? ⟨bl, ol + k, none⟩ = some (.slice (some ⟨g, 0, none⟩) (n k) cv) ∧ w'.heap.size ≥ wr.heap.size ∧ (∀ j, w'.frozen? ⟨g, j, none⟩ = false) ∧ (ApA enTok 4 33 23 base m vs (.slice (some ⟨bl, ol, none⟩) m cl) w X w' ∨ ApA enTok 4 33 23 base m vs (.slice (some ⟨bl, ol, none⟩) m cl) w X' w'))) (by kernel_rfl) ⟨ha.bel.drew, hcl, Nat.le_refl _, hfr, .inl ha.drew⟩ (fun hHeld => ?_)
          refine held_take 0 (v := ?_) rfl (by kernel_rfl) (by kernel_rfl) (by kernel_rfl) (fun _ _ _ h => h) (by assumption) ?_ ?_
          rotate_left
          · first | (refine Or.inr ⟨?_, ?_⟩ <;> rfl) | (refine Or.inl ⟨by rfl, ?_⟩; intro w hSw; (try dsimp only at hSw); first | (go_simp; done) | (go_simp; with_reducible rfl))
          try simp only [Act.put, List.setIfInBounds_toArray, List.set_cons_zero, List.set_cons_succ]
          refine held_take 1 (v := ?_) rfl (by kernel_rfl) (by kernel_rfl) (by kernel_rfl) (fun _ _ _ h => h) (by assumption) ?_ ?_
          rotate_left
          · first | (refine Or.inr ⟨?_, ?_⟩ <;> rfl) | (refine Or.inl ⟨by rfl, ?_⟩; intro w hSw; (try dsimp only at hSw); first | (go_simp; done) | (go_simp; with_reducible rfl))
          try simp only [Act.put, List.setIfInBounds_toArray, List.set_cons_zero, List.set_cons_succ]
          refine held_take 2 (v := ?_) rfl (by kernel_rfl) (by kernel_rfl) (by kernel_rfl) (fun _ _ _ h => h) (by assumption) ?_ ?_
          rotate_left
          · first | (refine Or.inr ⟨?_, ?_⟩ <;> rfl) | (refine Or.inl ⟨by rfl, ?_⟩; intro w hSw; (try dsimp only at hSw); first | (go_simp; done) | (go_simp; with_reducible rfl))
          try simp only [Act.put, List.setIfInBounds_toArray, List.set_cons_zero, List.set_cons_succ]
          refine held_take 3 (v := ?_) rfl (by kernel_rfl) (by kernel_rfl) (by kernel_rfl) (fun _ _ _ h => h) (by assumption) ?_ ?_
          rotate_left
          · first | (refine Or.inr ⟨?_, ?_⟩ <;> rfl) | (refine Or.inl ⟨by rfl, ?_⟩; intro w hSw; (try dsimp only at hSw); first | (go_simp; done) | (go_simp; with_reducible rfl))
          try simp only [Act.put, List.setIfInBounds_toArray, List.set_cons_zero, List.set_cons_succ]
          refine held_take 4 (v := ?_) rfl (by kernel_rfl) (by kernel_rfl) (by kernel_rfl) (fun _ _ _ h => h) (by assumption) ?_ ?_
          rotate_left
          · first | (refine Or.inr ⟨?_, ?_⟩ <;> rfl) | (refine Or.inl ⟨by rfl, ?_⟩; intro w hSw; (try dsimp only at hSw); first | (go_simp; done) | (go_simp; with_reducible rfl))
          try simp only [Act.put, List.setIfInBounds_toArray, List.set_cons_zero, List.set_cons_succ]
          refine held_take 5 (v := ?_) rfl (by kernel_rfl) (by kernel_rfl) (by kernel_rfl) (fun _ _ _ h => h) (by assumption) ?_ ?_
          rotate_left
          · first | (refine Or.inr ⟨?_, ?_⟩ <;> rfl) | (refine Or.inl ⟨by rfl, ?_⟩; intro w hSw; (try dsimp only at hSw); first | (go_simp; done) | (go_simp; with_reducible rfl))
          try simp only [Act.put, List.setIfInBounds_toArray, List.set_cons_zero, List.set_cons_succ]
          refine held_take 6 (v := ?_) rfl (by kernel_rfl) (by kernel_rfl) (by kernel_rfl) (fun _ _ _ h => h) (by assumption) ?_ ?_
          rotate_left
          · first | (refine Or.inr ⟨?_, ?_⟩ <;> rfl) | (refine Or.inl ⟨by rfl, ?_⟩; intro w hSw; (try dsimp only at hSw); first | (go_simp; done) | (go_simp; with_reducible rfl))
          try simp only [Act.put, List.setIfInBounds_toArray, List.set_cons_zero, List.set_cons_succ]
          refine held_call 7 rfl (by kernel_rfl) (fun K hK => ?_)
          go_simp
          with_reducible refine (markTokens_any k i (by omega) (by have := hr' k hlt; omega) _).mono ?_
          rintro e w' ⟨rfl, hb'⟩
          refine hK.out _ _ ?_ (fun hHeld => ?_)
          · exact ⟨bstep hHeld.1 hb' hB, cell_keep' hHeld.2.1 hb', Nat.le_trans hHeld.2.2.1 hb'.size, fun j => by rw [frozen_keep hb' (show g < _ from Nat.lt_of_lt_of_le hgs hHeld.2.2.1)]; exact hHeld.2.2.2.1 j, hHeld.2.2.2.2.imp (fun h => h.keep hB hb') (fun h => h.keep hB hb')⟩
          clear hK K
          try simp only [Act.put, List.setIfInBounds_toArray, List.set_cons_zero, List.set_cons_succ]
          refine held_take 8 (v := ?_) rfl (by kernel_rfl) (by kernel_rfl) (by kernel_rfl) (fun _ _ _ h => h) (by assumption) ?_ ?_
          rotate_left
          · first | (refine Or.inr ⟨?_, ?_⟩ <;> rfl) | (refine Or.inl ⟨by rfl, ?_⟩; intro w hSw; (try dsimp only at hSw); first | (go_simp; done) | (go_simp; with_reducible rfl))
          try simp only [Act.put, List.setIfInBounds_toArray, List.set_cons_zero, List.set_cons_succ]
          refine held_call 9 rfl (by kernel_rfl) (fun K hK => ?_)
          obtain ⟨u0, hu0⟩ : ∃ u, World.cell? _ ⟨g, i * 4, none⟩ = some u := hroom _ hHeld.2.2.2.2 0 (by decide)
          obtain ⟨u1, hu1⟩ : ∃ u, World.cell? _ ⟨g, i * 4 + 1, none⟩ = some u := hroom _ hHeld.2.2.2.2 1 (by decide)
          obtain ⟨u2, hu2⟩ : ∃ u, World.cell? _ ⟨g, i * 4 + 2, none⟩ = some u := hroom _ hHeld.2.2.2.2 2 (by decide)
          have hf0 := hHeld.2.2.2.1 (i * 4)
          have hf1 := hHeld.2.2.2.1 (i * 4 + 1)
          have hf2 := hHeld.2.2.2.1 (i * 4 + 2)
          obtain ⟨u3, hu3⟩ : ∃ u, World.cell? _ ⟨g, i * 4 + 3, none⟩ = some u := hroom _ hHeld.2.2.2.2 3 (by decide)
          have hf3 := hHeld.2.2.2.1 (i * 4 + 3)
          go_simp
          have hnew := hst _ hHeld.2.2.2.2
          rw [show enTok (mkTok k i) = [.int .i64 (-7), .string ⟨(mkText k i).toArray⟩, .int .i64 0, .int .i64 0] from rfl] at hnew
          change ApA _ _ _ _ _ _ _ _ _ _ (World.setCell (World.setCell (World.setCell (World.setCell _ ⟨g, i * 4, none⟩ _) ⟨g, i * 4 + 1, none⟩ _) ⟨g, i * 4 + 2, none⟩ _) ⟨g, i * 4 + 3, none⟩ _) at hnew
          refine hK.out _ _ ?_ (fun hHeld2 => ?_)
          · refine ⟨hnew.bel, by rw [← hv]; exact hnew.lsCell hlt, Nat.le_trans hHeld.2.2.1 (by simp [World.setCell]), ?_, .inr hnew⟩
            have := hnew.own k hlt
            rw [hv] at this
            exact this.free
          clear hK K hHeld hHeld2 hst hroom hu0 hu1 hu2 hu3 hf0 hf1 hf2 hf3
          refine wpAnyH_done (by kernel_rfl) ?_ _
          go_wp2_with fail
          go_roundw
          case rel => exact ⟨i + 1, X', by omega, by go_num, hnew, hpn⟩
          case measure => simp [intOf]; omega
        · obtain rfl : i = n k := by omega
          have hp2 := hp.row hlt
          go_wp2_with fail
          go_roundw
          case rel => exact ⟨k + 1, X, by omega, by go_num, ha, hp2⟩
          case measure => simp [intOf]; omega
    · have hkm : Hid (k = m) := Lib.hid (by omega)
      have hb0 := ApB.start ha (hkm.out ▸ hp) vs
      clear ha hp
      obtain ⟨kq, hkq⟩ : ∃ x, x = k := ⟨_, rfl⟩
      subst hkq
      go_wp2_with fail
      go_loopw [5, 6] (fun gsv v wr => ∃ k G, k ≤ m ∧ v = .int .i64 (k : Nat) ∧ ApB enTok 4 33 23 base m vs (.slice al m cl) w mkTok n k G gsv wr) (fun _ v _ => m - (intOf v).toNat)
      case atStart => exact ⟨0, vs, Nat.zero_le _, rfl, hb0⟩
      case round =>
        clear hb0 hkm hlt hk X
        obtain ⟨k, G, hk, rfl, hb⟩ := hrel
        have hshg := hb.gs.shape
        rw [List.length_map, List.length_range] at hshg
        obtain ⟨ag, cg, rfl, hsg⟩ := hshg
        by_cases hlt : k < m
        · have hc0 := hb.enter hap hlt
          obtain ⟨bl, ol, rfl, hbl0, hcl0⟩ := SlOf.cell1 hb.a.ls.sl.2 id (fun _ => rfl) (k := k) (by simpa using hlt)
          have hcl := hb.a.lsCell hlt
          clear hb hbl0 hcl0
          go_wp2_with fail
          go_loopw [7, 8] (fun gv v wr => ∃ i : Nat, i ≤ 64 ∧ v = .int .i64 (i : Nat) ∧ ApC enTok 4 33 23 base m vs (.slice (some ⟨bl, ol, none⟩) m cl) w mkTok n k G (.slice ag k cg) gv i wr) (fun _ v _ => 64 - (intOf v).toNat)
          case atStart => exact ⟨0, Nat.zero_le _, rfl, hc0⟩
          case round =>
            clear hc0 hcl
            obtain ⟨i, hi, rfl, hc⟩ := hrel
            have hshc := hc.cur.shape
            rw [marksOf_len] at hshc
            obtain ⟨ac, cc, rfl, hsc⟩ := hshc
            by_cases hil : i < 64
            · have hcl := hc.a.lsCell hlt
              obtain ⟨av, cv, hv, hsv⟩ := (hc.a.own k hlt).shape
              rw [marksOf_len] at hv
              have hln := hsv.len
              rw [marksOf_len] at hln
              rw [hv] at hcl
              have hrk := hr' k hlt
              go_wp2_with fail
              have hcast : ((n k : Int) + (i : Int)) = ((n k + i : Nat) : Int) := by omega
              rw [hcast]
              clear hcast
              refine (markTokens_any k (n k + i) (Nat.le_of_lt (Nat.lt_of_lt_of_le hlt (Nat.le_trans hm (by decide)))) (bnd281 _ _ hrk hil) _).mono ?_
              rintro e w1 ⟨rfl, hb1⟩
              have hc1 := hc.keep hB hb1
              have HMT := Lib.hid (show (⟨-7, mkText k (n k + i), 0, 0⟩ : TokD) = mkTok k (n k + i) from rfl)
              generalize mkText k (n k + i) = mt at *
              have hbd : ((marksOf mkTok k (n k + i)).length + 1) * 40 ≤ 140737488355328 := by rw [marksOf_len]; exact bnd40 _ _ hrk hil
              have HBD := Lib.hid hbd
              clear hc hcl hv hsv hb1 hsc hln hsg hrk hbd
              go_wp2_with (at_builtin; go_loud (refine wpList_append_elem4 toks_ty (marksOf mkTok k (n k + i)) (⟨-7, mt, 0, 0⟩ : TokD) hc1.cur hc1.a.bel hB HBD.out ?_ (hone := by simp [enTok, Value.oneCell'])))
              intro v' w2 ho2 hb2 hg2 hv2 hgrew
              rw [HMT.out] at ho2
              have hc2 := hc1.step hne enTok_len hlt ho2 hb2 hg2 hv2 hgrew
              clear hc1 ho2 hb2 hg2 hv2 hgrew
              go_wp2
              go_roundw
              case rel => exact ⟨i + 1, by omega, by go_num, hc2⟩
              case measure => simp [intOf]; omega
            · obtain rfl : i = 64 := by omega
              go_wp2_with (at_builtin; go_loud (refine wpList_append_elem3 tokss_ty ((List.range k).map G) (.slice ac (n k + 64) cc) hc.gs hc.a.bel hB (by simp; omega) ?_ (hone := by simp [enV, Value.oneCell'])))
              intro v' w2 ho2 hb2 hg2 hv2
              have hb3 := hc.leave hne ho2 hb2 hg2 hv2
              clear hc ho2 hb2 hg2 hv2 hsc
              go_wp2
              go_roundw
              case rel => exact ⟨k + 1, _, by omega, by go_num, hb3⟩
              case measure => simp [intOf]; omega
        · have hkm : m = k := by omega
          subst hkm
          clear hsg
          go_wp2_with fail
          go_loopw [9] (fun v wr => ∃ k : Nat, k ≤ m ∧ v = .int .i64 (k : Nat) ∧ ApB enTok 4 33 23 base m vs (.slice al m cl) w mkTok n m G (.slice ag m cg) wr) (fun v _ => m - (intOf v).toNat)
          case atStart => exact ⟨0, Nat.zero_le _, rfl, hb⟩
          case round =>
            clear hb hlt hk
            obtain ⟨k, hk, rfl, hb⟩ := hrel
            by_cases hlt : k < m
            · go_wp2_with fail
              obtain ⟨bg, og, rfl, hcg⟩ := hb.gsCell' hlt
              obtain ⟨bl, ol, rfl, hcl⟩ := hb.a.lsCell' hlt
              clear hcg hcl
              go_loopw [10] (fun v wr => ∃ i : Nat, i ≤ n k + 64 ∧ v = .int .i64 (i : Nat) ∧ ApB enTok 4 33 23 base m vs (.slice (some ⟨bl, ol, none⟩) m cl) w mkTok n m G (.slice (some ⟨bg, og, none⟩) m cg) wr) (fun v _ => n k + 64 - (intOf v).toNat)
              case atStart => exact ⟨0, Nat.zero_le _, rfl, hb⟩
              case round =>
                clear hb
                obtain ⟨i, hi, rfl, hb⟩ := hrel
                obtain ⟨ga, gc, hgv, hsg⟩ := (hb.gown k hlt).shape
                rw [marksOf_len] at hgv
                obtain ⟨bg', og', e1, hcg⟩ := hb.gsCell' hlt
                cases e1
                rw [hgv] at hcg
                have hlg := hsg.len
                rw [marksOf_len] at hlg
                by_cases hil : i < n k + 64
                · go_wp2_with fail
                  refine (markTokens_any k i (by omega) (by have := hr' k hlt; omega) _).mono ?_
                  rintro e w1 ⟨rfl, hb1⟩
                  obtain ⟨mt, hmt⟩ : ∃ x, x = mkText k i := ⟨_, rfl⟩
                  have HMM : Hid (mkTok k i = (⟨-7, mt, 0, 0⟩ : TokD)) := Lib.hid (by rw [hmt]; rfl)
                  rw [← hmt]
                  clear hmt
                  go_wp2_with fail
                  have hb2 := bstep (Below.refl wr.heap.size wr) hb1 (Nat.le_refl _)
                  have hb3 := hb2.alloc hb2.size (.cells #[.int .i64 (-7), .string ⟨mt.toArray⟩, .int .i64 0, .int .i64 0] 33)
                  have hc0 : (w1.alloc (.cells #[.int .i64 (-7), .string ⟨mt.toArray⟩, .int .i64 0, .int .i64 0] 33)).cell? ⟨w1.heap.size, 0, none⟩ = some (.int .i64 (-7)) := by go_simp
                  have hc1 : (w1.alloc (.cells #[.int .i64 (-7), .string ⟨mt.toArray⟩, .int .i64 0, .int .i64 0] 33)).cell? ⟨w1.heap.size, 1, none⟩ = some (.string ⟨mt.toArray⟩) := by go_simp
                  have hc2 : (w1.alloc (.cells #[.int .i64 (-7), .string ⟨mt.toArray⟩, .int .i64 0, .int .i64 0] 33)).cell? ⟨w1.heap.size, 2, none⟩ = some (.int .i64 0) := by go_simp
                  have hc3 : (w1.alloc (.cells #[.int .i64 (-7), .string ⟨mt.toArray⟩, .int .i64 0, .int .i64 0] 33)).cell? ⟨w1.heap.size, 3, none⟩ = some (.int .i64 0) := by go_simp
                  have hsz3 : w1.heap.size < (w1.alloc (.cells #[.int .i64 (-7), .string ⟨mt.toArray⟩, .int .i64 0, .int .i64 0] 33)).heap.size := by simp
                  have hbx := hb.keep hB hb3
                  have hcg3 := cell_keep' hcg hb3
                  have hsg3 := hsg.keep hb3 (Nat.le_refl _)
                  clear hb hcg hsg hb1 hb2 hb3
                  generalize w1.alloc (.cells #[.int .i64 (-7), .string ⟨mt.toArray⟩, .int .i64 0, .int .i64 0] 33) = w3 at *
                  obtain ⟨bq, oq, rfl, hbq, hg0, hg1, hg2, hg3⟩ := tok_at hsg3 (k := i) (by rw [marksOf_len]; exact hil)
                  simp only [marksOf_get, HMM.out] at hg0 hg1 hg2 hg3
                  obtain ⟨bl', ol', e1, hcl⟩ := hbx.a.lsCell' hlt
                  cases e1
                  obtain ⟨av, cv, hv, hsv⟩ := (hbx.a.own k hlt).shape
                  rw [marksOf_len] at hv
                  rw [hv] at hcl
                  have hlv := hsv.len
                  rw [marksOf_len] at hlv
                  by_cases hin : (i : Int) < n k
                  · obtain ⟨bv, ov, rfl, hbv, hl0, hl1, hl2, hl3⟩ := tok_at hsv (k := i) (by rw [marksOf_len]; omega)
                    simp only [marksOf_get, HMM.out] at hl0 hl1 hl2 hl3
                    clear HMM hsg3 hsv hgv hv
                    go_wp2_with fail
                    go_quiet (fail)
                    go_wp2_with fail
                    go_roundw
                    case rel => exact ⟨i + 1, by omega, by go_num, hbx.keep hB ⟨rfl, rfl, rfl, Nat.le_refl _, fun _ _ => rfl⟩⟩
                    case measure => simp [intOf]; omega
                  · have hdec : decide (i < n k) = false := decide_eq_false (by omega)
                    clear HMM hsg3 hsv hgv hv
                    go_wp2_with fail
                    go_quiet (fail)
                    go_wp2_with fail
                    go_roundw
                    case rel => exact ⟨i + 1, by omega, by go_num, hbx.keep hB ⟨rfl, rfl, rfl, Nat.le_refl _, fun _ _ => rfl⟩⟩
                    case measure => simp [intOf]; omega
                · obtain rfl : i = n k + 64 := by omega
                  go_wp2_with fail
                  go_roundw
                  case rel => exact ⟨k + 1, by omega, by go_num, hb⟩
                  case measure => simp [intOf]; omega
            · go_wp2_with fail
              go_ret
              exact ⟨rfl, hb.a.bel⟩
end Go.Proofs.YtmifjfohanegiaaGreatDoor
