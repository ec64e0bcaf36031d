/-
  chars: control, blank, All; the iterator of a source's runes.
-/
import Derived.Test.YtmifjfohanegiaaGreatDoorLexM
import Derived.Test.YtmifjfohanegiaaGreatDoorRngF
import Derived.Test.YtmifjfohanegiaaGreatDoorBaseD
import Derived.Test.YtmifjfohanegiaaGreatDoorShelf
import Derived.Shelf.Abstract
import Derived.Shelf.RegionOpen
import Derived.OwnWalkIn
import Derived.TacticsInMore
import Derived.LoopNIn
import Derived.LoopIn
import Derived.Lib.OthersKept

namespace Go.Proofs.YtmifjfohanegiaaGreatDoor
set_option linter.unusedVariables false
open Go.RowKit Go.Shelf
attribute [local go_sem] Oper.semAt_some

theorem Blk.st {w : World} {k : Nat} {cs : Array Value} (h : Blk w k cs) (j : Nat) (v : Value) : Blk (w.setCell ⟨k, j, none⟩ v) k (cs.setIfInBounds j v) := by
  obtain ⟨T, h⟩ := h
  exact ⟨T, by simp [World.setCell, Array.getElem?_modify, h]⟩
theorem Blk.same {w w' : World} {k : Nat} {cs : Array Value} (h : Blk w k cs) (e : w'.heap[k]? = w.heap[k]?) : Blk w' k cs := by
  obtain ⟨T, h⟩ := h
  exact ⟨T, e.trans h⟩

def encU (u : Unt) : Array Value := #[.agg #[.int .i64 u.line, .int .i64 u.col], .int .i32 (u.rune : Nat)]
/-- the place of the k-th unit -/
def plcU (xs : List Unt) : Nat → Int × Int
  | 0 => (1, 1)
  | k + 1 => nextP (plcU xs k) ((xs[k]?.map Unt.rune).getD 0)
theorem plc_at (s : List UInt8) (k : Nat) (hk : k < (unitsL s).length) : (unitsL s)[k].line = (plcU (unitsL s) k).1 ∧ (unitsL s)[k].col = (plcU (unitsL s) k).2 := by
  induction k with
  | zero => exact (unit_lc_f _ _ _ 0 hk).1 rfl
  | succ k ih =>
    obtain ⟨i1, i2⟩ := ih (by omega)
    have h := (unit_lc_f s.length s (1, 1) k (show k < (unitsL s).length by omega)).2 hk
    have e : plcU (unitsL s) (k + 1) = nextP ((unitsL s)[k].line, (unitsL s)[k].col) (unitsL s)[k].rune := by
      show nextP (plcU (unitsL s) k) _ = _
      rw [i1, i2, List.getElem?_eq_getElem (by omega)]; rfl
    rw [e]
    exact Prod.mk.injEq .. ▸ (show ((unitsL s)[k + 1].line, (unitsL s)[k + 1].col) = (_, _) from h)

theorem ctlU_iff (r : Nat) : ctlU r = true ↔ r < 32 ∨ r = 127 := by unfold ctlU; simp
theorem blankU_iff (r : Nat) : blankU r = true ↔ r = 32 ∨ r = 9 ∨ r = 10 ∨ r = 13 := by unfold blankU; simp [or_assoc]
theorem control_any (r : Nat) (w : World) :
    Calls Tryz.prog 40 #[.int .i32 (r : Nat)] w fun e w' => e = .returned (.bool (ctlU r)) ∧ w' = w := by
  have HI := Lib.hid (ctlU_iff r)
  generalize ctlU r = b at *
  by_cases h1 : (r : Int) < 32
  · have HB := Lib.hid (show b = true from HI.out.2 (.inl (by omega)))
    clear HI
    go_enter Tryz.func40, Tryz.ntmps40
    go_wp2_with fail
    go_ret
    exact ⟨by rw [HB.out] <;> rfl, rfl⟩
  · by_cases h2 : r = 127
    · have HB := Lib.hid (show b = true from HI.out.2 (.inr h2))
      have hb : ((r : Int) == 127) = true := by rw [h2]; rfl
      clear HI h2
      go_enter Tryz.func40, Tryz.ntmps40
      go_wp2_with fail
      go_ret
      exact ⟨by rw [HB.out] <;> rfl, rfl⟩
    · have HB := Lib.hid (show b = false by rw [Bool.eq_false_iff]; intro h; rcases HI.out.1 h with h | h <;> omega)
      have hb : ((r : Int) == 127) = false := by rw [beq_eq_false_iff_ne]; omega
      clear HI h2
      go_enter Tryz.func40, Tryz.ntmps40
      go_wp2_with fail
      go_ret
      exact ⟨by rw [HB.out] <;> rfl, rfl⟩
theorem blank_any (r : Nat) (w : World) :
    Calls Tryz.prog 41 #[.int .i32 (r : Nat)] w fun e w' => e = .returned (.bool (blankU r)) ∧ w' = w := by
  have e1 : ((r : Int) == 32) = (r == 32) := by rw [Bool.eq_iff_iff, beq_iff_eq, beq_iff_eq]; omega
  have e2 : ((r : Int) == 9) = (r == 9) := by rw [Bool.eq_iff_iff, beq_iff_eq, beq_iff_eq]; omega
  have e3 : ((r : Int) == 10) = (r == 10) := by rw [Bool.eq_iff_iff, beq_iff_eq, beq_iff_eq]; omega
  have e4 : ((r : Int) == 13) = (r == 13) := by rw [Bool.eq_iff_iff, beq_iff_eq, beq_iff_eq]; omega
  have HI := Lib.hid (show blankU r = (r == 32 || r == 9 || r == 10 || r == 13) from rfl)
  generalize blankU r = b at *
  generalize (r == 32) = b1 at *
  generalize (r == 9) = b2 at *
  generalize (r == 10) = b3 at *
  generalize (r == 13) = b4 at *
  cases b1 <;> cases b2 <;> cases b3 <;> cases b4
  all_goals
    have HB := Lib.hid HI.out
    clear HI
    go_enter Tryz.func41, Tryz.ntmps41
    go_wp2_with fail
    go_ret
    exact ⟨by rw [HB.out] <;> rfl, rfl⟩
theorem all_any (s : ByteArray) (w : World) :
    Calls Tryz.prog 37 #[.string s] w fun e w' => e = .returned (.func (.func 74) #[] #[.pointer (some ⟨w.heap.size, 0, none⟩)]) ∧ w' = w.alloc (.cells #[.string s] 9) := by
  go_enter Tryz.func37, Tryz.ntmps37
  go_wp2_with fail
  go_ret
  exact ⟨rfl, rfl⟩

set_option maxRecDepth 100000 in
set_option maxHeartbeats 4000000 in
theorem all1_own (s : List UInt8) (hs : s.length ≤ 1048576) (bs : Nat) (w : World) (hb : bs < w.heap.size) (hc : w.cell? ⟨bs, 0, none⟩ = some (.string ⟨s.toArray⟩)) (n : Nat) (hn : 1 ≤ n) :
    IterOwn Fence.wide n Tryz.prog 74 #[.pointer (some ⟨bs, 0, none⟩)] encU (unitsL s) w := by
  intro l J Jx W hW hJ hJx hY h0
  have hcW : W.cell? ⟨bs, 0, none⟩ = some (.string ⟨s.toArray⟩) := (hW.cell (p := ⟨bs, 0, none⟩) hb).trans hc
  refine callsIn_of_wp Tryz.func74 rfl trivial ?_ rfl
  simp only [Tryz.ntmps74, List.size_toArray, List.length_cons, List.length_nil, Nat.reduceAdd, Nat.reduceSub, Array.replicate_succ, Array.replicate_zero, List.push_toArray, List.append_toArray, List.nil_append, List.cons_append]
  have hbW : bs < W.heap.size := Nat.lt_of_lt_of_le hb hW.size
  gi_wp2
  generalize hxs : unitsL s = xs at *
  have hall := fun k hk => unit_at s k hk
  have hbd := fun k hk => unit_bd s k hk
  have hplc := fun k hk => plc_at s k hk
  have htot := units_all_f s.length s (1, 1) (Nat.le_refl _)
  rw [show unitsF s.length s (1, 1) = xs from hxs] at htot
  rw [hxs] at hall hbd hplc
  have hle : xs.length ≤ s.length := by rw [← hxs]; exact unitsF_len _ _ _
  have HALL := Lib.hid hall
  have HBD := Lib.hid hbd
  have HPL := Lib.hid hplc
  have HTOT := Lib.hid htot
  have HXS := Lib.hid hxs
  clear hall hbd hplc htot hxs
  have hb0 : Below W.heap.size W ((W.alloc (.cells #[.int .i64 1, .int .i64 1] 31)).iter ⟨s.toArray⟩ 0) := ((Below.refl _ W).alloc (Nat.le_refl _) _).alloc (by simp) _
  have ht0 : Blk ((W.alloc (.cells #[.int .i64 1, .int .i64 1] 31)).iter ⟨s.toArray⟩ 0) W.heap.size #[.int .i64 1, .int .i64 1] := (Blk.new W #[.int .i64 1, .int .i64 1] 31).alloc _
  have hi0 : ((W.alloc (.cells #[.int .i64 1, .int .i64 1] 31)).iter ⟨s.toArray⟩ 0).heap[W.heap.size + 1]? = some (.stringIter ⟨s.toArray⟩ 0) := by
    have := World.iter_heap (W.alloc (.cells #[.int .i64 1, .int .i64 1] 31)) ⟨s.toArray⟩ 0
    rwa [World.size_alloc] at this
  have hJ0 := hJ 0 _ _ h0 hb0
  generalize (W.alloc (.cells #[.int .i64 1, .int .i64 1] 31)).iter ⟨s.toArray⟩ 0 = V at *
  clear hcW h0
  gi_loopw [] (fun wr => ∃ k : Nat, k ≤ xs.length ∧ wr.heap[W.heap.size + 1]? = some (.stringIter ⟨s.toArray⟩ (posU xs k)) ∧ Blk wr W.heap.size #[.int .i64 (plcU xs k).1, .int .i64 (plcU xs k).2] ∧ J k wr)
    (fun wr => s.length - wr.iterPos (W.heap.size + 1))
  case atStart => exact ⟨0, Nat.zero_le _, by rw [posU_zero]; exact hi0, ht0, hJ0⟩
  case round =>
    obtain ⟨k, hk, hit, hpl, hj⟩ := hrel
    clear hi0 ht0 hJ0 hb0
    have hst : W.heap.size + 1 < wr.heap.size := (Array.getElem?_eq_some_iff.1 hit).1
    by_cases hlt : k < xs.length
    · obtain ⟨u1, u2, u3⟩ := HALL.out k hlt
      obtain ⟨d1, d2, d3, d4⟩ := HBD.out k hlt
      obtain ⟨p1, p2⟩ := HPL.out k hlt
      have hps : posU xs k < (⟨s.toArray⟩ : ByteArray).size := u1
      have hnx : ∀ ty, (Instr.next (.pointer (some ⟨W.heap.size + 1, 0, none⟩)) true ty).run Tryz.prog wr = _ := fun ty => Lib.run_next_any_at wr (W.heap.size + 1) ⟨s.toArray⟩ (posU xs k) ty hit hps
      rw [dec_drop, ← u2, ← u3] at hnx
      have hit2 := Lib.iterAt_heap wr (W.heap.size + 1) ⟨s.toArray⟩ (posU xs k) (posU xs (k + 1)) hit
      have hpos := posU_succ xs k hlt
      have hmz : (wr.iterPos (W.heap.size + 1)) = posU xs k := iterPos_of hit
      rw [← hpos] at hnx
      have hsz2 := Lib.iterAt_size wr (W.heap.size + 1) ⟨s.toArray⟩ (posU xs (k + 1))
      have hbel : Below W.heap.size wr (wr.iterAt (W.heap.size + 1) ⟨s.toArray⟩ (posU xs (k + 1))) := Lib.below_iterAt (Below.refl _ _) (by omega) _ _
      have hpl2 : Blk (wr.iterAt (W.heap.size + 1) ⟨s.toArray⟩ (posU xs (k + 1))) W.heap.size #[.int .i64 (plcU xs k).1, .int .i64 (plcU xs k).2] := hpl.same (Lib.iterAt_other _ _ _ _ _ (by omega))
      have hj2 := hJ k _ _ hj hbel
      have HM := Lib.hid hmz
      have HPOS := Lib.hid hpos
      have hplc2 : plcU xs (k + 1) = nextP (plcU xs k) xs[k].rune := by show nextP (plcU xs k) _ = _; rw [List.getElem?_eq_getElem hlt]; rfl
      have HP2 := Lib.hid hplc2
      have hu1 : posU xs k < s.length := u1
      have HU := Lib.hid hu1
      clear hmz hpos hplc2 hps u1 u2 u3 hu1
      obtain ⟨wv, hwv⟩ : ∃ x, wr.iterAt (W.heap.size + 1) ⟨s.toArray⟩ (posU xs (k + 1)) = x := ⟨_, rfl⟩
      rw [hwv] at hnx hit2 hsz2 hbel hpl2 hj2
      have hst2 : W.heap.size + 1 < wv.heap.size := by rw [hsz2]; exact hst
      clear hwv hsz2 hbel hpl hit hj
      rw [← p1, ← p2] at hpl2
      obtain ⟨fn, tmps, assign, body, hy, hR⟩ := hY k hlt wv hj2 (by omega)
      have hy2 : (Instr.yield l #[.agg #[.int .i64 xs[k].line, .int .i64 xs[k].col], .int .i32 (xs[k].rune : Nat)]).run Tryz.prog wv = _ := hy
      have HPE := Lib.hid p1
      have HPF := Lib.hid p2
      clear hy p1 p2
      generalize xs[k].line = L at *
      generalize xs[k].col = C at *
      generalize xs[k].rune = R at *
      obtain ⟨c0, c1, _, _⟩ := hpl2.two
      gi_wp2
      refine hR.mono ?_
      rintro e W' (⟨rfl, hj3, hk3⟩ | ⟨rfl, hx3⟩)
      · have hit3 := (hk3.same (W.heap.size + 1) (by omega) (by omega)).trans hit2
        have hpl3 : Blk W' W.heap.size _ := hpl2.same (hk3.same _ (Nat.le_refl _) (by omega))
        have hst3 : W.heap.size + 1 < W'.heap.size := Nat.lt_of_lt_of_le hst2 hk3.size
        have hw3 := HALL.out k hlt
        have hwd := (dec_w (s.drop (posU xs k))).1
        rw [← hw3.2.2] at hwd
        clear hy2 hR hk3 hit2 hpl2 hj2 c0 c1 hnx hw3 hY
        obtain ⟨c0, c1, f0, f1⟩ := hpl3.two
        have HW3 := Lib.hid hwd
        clear hwd
        by_cases hr10 : R = 10
        · have hb1 : ((R : Int) == 10) = true := by rw [hr10]; rfl
          have HR := Lib.hid hr10
          clear hr10
          gi_wp2
          have hbl : Below W.heap.size W' (((W'.setCell ⟨W.heap.size, 1, none⟩ (.int .i64 (C + 1))).setCell ⟨W.heap.size, 0, none⟩ (.int .i64 (L + 1))).setCell ⟨W.heap.size, 1, none⟩ (.int .i64 1)) := (((Below.refl W.heap.size W').setCell (p := ⟨W.heap.size, 1, none⟩) (Nat.le_refl _) _).setCell (p := ⟨W.heap.size, 0, none⟩) (Nat.le_refl _) _).setCell (p := ⟨W.heap.size, 1, none⟩) (Nat.le_refl _) _
          go_roundw
          case rel =>
            refine ⟨k + 1, hlt, ?_, ?_, hJ (k + 1) _ _ hj3 hbl⟩
            · rw [← hit3]; simp [World.setCell, Array.getElem?_modify]
            · have := ((hpl3.st 1 (.int .i64 (C + 1))).st 0 (.int .i64 (L + 1))).st 1 (.int .i64 1)
              rw [HP2.out, HR.out]
              unfold nextP
              rw [if_pos rfl, ← HPE.out]
              exact this
          case measure =>
            rw [iterPos_of (p := posU xs (k + 1)) (s := ⟨s.toArray⟩) (by rw [← hit3]; simp [World.setCell, Array.getElem?_modify]), HM.out]
            have h1 := HPOS.out
            have h2 := HW3.out
            have h3 := HU.out
            omega
        · have hb1 : ((R : Int) == 10) = false := by rw [beq_eq_false_iff_ne]; omega
          have HR := Lib.hid hr10
          clear hr10
          gi_wp2
          have hbl : Below W.heap.size W' (W'.setCell ⟨W.heap.size, 1, none⟩ (.int .i64 (C + 1))) := (Below.refl W.heap.size W').setCell (p := ⟨W.heap.size, 1, none⟩) (Nat.le_refl _) _
          go_roundw
          case rel =>
            refine ⟨k + 1, hlt, ?_, ?_, hJ (k + 1) _ _ hj3 hbl⟩
            · rw [← hit3]; simp [World.setCell, Array.getElem?_modify]
            · have := hpl3.st 1 (.int .i64 (C + 1))
              rw [HP2.out]
              unfold nextP
              rw [if_neg HR.out, ← HPE.out, ← HPF.out]
              exact this
          case measure =>
            rw [iterPos_of (p := posU xs (k + 1)) (s := ⟨s.toArray⟩) (by rw [← hit3]; simp [World.setCell, Array.getElem?_modify]), HM.out]
            have h1 := HPOS.out
            have h2 := HW3.out
            have h3 := HU.out
            omega
      · clear hy2 hR c0 c1 hnx
        gi_wp2
        refine bodyPost_ret (results_none rfl _ _ _) rfl ?_
        exact ⟨⟨_, rfl⟩, .inr hx3⟩
    · have hkl : k = xs.length := by omega
      subst hkl
      have hps : ¬ posU xs xs.length < (⟨s.toArray⟩ : ByteArray).size := by rw [HTOT.out]; exact Nat.lt_irrefl _
      have hnx : ∀ ty, (Instr.next (.pointer (some ⟨W.heap.size + 1, 0, none⟩)) true ty).run Tryz.prog wr = _ := fun ty => Lib.run_next_end_at wr (W.heap.size + 1) ⟨s.toArray⟩ (posU xs xs.length) ty hit hps
      clear hps hY
      gi_wp2
      go_end0
      exact ⟨⟨_, rfl⟩, .inl (by rw [HXS.out]; exact hj)⟩
end Go.Proofs.YtmifjfohanegiaaGreatDoor
