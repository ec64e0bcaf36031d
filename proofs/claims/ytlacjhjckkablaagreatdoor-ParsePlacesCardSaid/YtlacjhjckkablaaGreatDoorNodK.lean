/-
  Layer 5: node.kind: contract; what a part may be asserted to be.
-/
import Derived.Test.YtlacjhjckkablaaGreatDoorFilM
import Derived.Test.YtlacjhjckkablaaGreatDoorCopDX
import Derived.Test.YtlacjhjckkablaaGreatDoorParX
import Derived.Test.YtlacjhjckkablaaGreatDoorHeldP
import Derived.Test.YtlacjhjckkablaaGreatDoorCopC
import Derived.Test.YtlacjhjckkablaaGreatDoorSamA

namespace Go.Proofs.YtlacjhjckkablaaGreatDoor
set_option linter.unusedVariables false
open Go.RowKit Go.Shelf

/-- the mark m stands at byte k -/
def StandsAt (s : List UInt8) (m : Mark) (k : Nat) : Prop := Bnd s (1, 1) k (m.2.1, m.2.2) ∧ k + m.1.length ≤ s.length ∧ (s.drop k).take m.1.length = m.1
/-- marks stand one behind the other, at n at least -/
def Stands (s : List UInt8) (n : Nat) (M : List Mark) : Prop := ∃ ks : List Nat, All2 (StandsAt s) M ks ∧ ks.Pairwise (· < ·) ∧ ∀ k ∈ ks, n ≤ k
theorem Stands.nil (s : List UInt8) (n : Nat) : Stands s n [] := ⟨[], .nil, .nil, fun k hk => by cases hk⟩
theorem Stands.low {s : List UInt8} {n m : Nat} {M : List Mark} (h : Stands s n M) (hm : m ≤ n) : Stands s m M := by
  obtain ⟨ks, h1, h2, h3⟩ := h
  exact ⟨ks, h1, h2, fun k hk => Nat.le_trans hm (h3 k hk)⟩
theorem Stands.tail {s : List UInt8} {n : Nat} {m : Mark} {M : List Mark} (h : Stands s n (m :: M)) : ∃ k, n ≤ k ∧ StandsAt s m k ∧ Stands s (k + 1) M := by
  obtain ⟨ks, h1, h2, h3⟩ := h
  cases h1 with
  | cons a b =>
    rename_i k ks
    rw [List.pairwise_cons] at h2
    exact ⟨k, h3 k (by simp), a, ks, b, h2.2, fun x hx => h2.1 x hx⟩
theorem Stands.cons {s : List UInt8} {n k : Nat} {m : Mark} {M : List Mark} (hk : n ≤ k) (ha : StandsAt s m k) (h : Stands s (k + 1) M) : Stands s n (m :: M) := by
  obtain ⟨ks, h1, h2, h3⟩ := h
  refine ⟨k :: ks, .cons ha h1, List.pairwise_cons.2 ⟨fun x hx => h3 x hx, h2⟩, fun x hx => ?_⟩
  rcases List.mem_cons.1 hx with rfl | hx
  · exact hk
  · have := h3 x hx; omega
theorem Stands.sub {s : List UInt8} {M N : List Mark} (h : List.Sublist M N) : ∀ {n : Nat}, Stands s n N → Stands s n M := by
  induction h with
  | slnil => exact fun h => h
  | cons x _ ih =>
    intro n h
    obtain ⟨k, h1, h2, h3⟩ := h.tail
    exact (ih h3).low (by omega)
  | cons_cons x _ ih =>
    intro n h
    obtain ⟨k, h1, h2, h3⟩ := h.tail
    exact .cons h1 h2 (ih h3)
theorem Chain.stands {s : List UInt8} {n : Nat} {l : List TokD} (h : Chain s n l) : ∀ {u : List TokD}, List.Sublist u l → (∀ t ∈ u, Plain14 t) → Stands s n (u.map mkT) := by
  induction h with
  | fin n q hn hb =>
    intro u hu hp
    rcases List.sublist_cons_iff.1 hu with h1 | ⟨r, rfl, h1⟩
    · rw [List.sublist_nil] at h1
      subst h1
      exact .nil _ _
    · have := hp (endTok q) (by simp)
      rcases this with h2 | h2 <;> exact absurd h2 (by show (0 : Int) ≠ _; decide)
  | tok n i m t r hn hi hb ht hm hr ih =>
    intro u hu hp
    rcases List.sublist_cons_iff.1 hu with h1 | ⟨v, rfl, h1⟩
    · exact (ih h1 hp).low (by omega)
    · have hk : t.kind ≠ 3 := by rcases hp t (by simp) with h2 | h2 <;> omega
      have hne : s.drop i ≠ [] := by intro h0; have := congrArg List.length h0; rw [List.length_drop] at this; simp at this; omega
      have hok := tokR_ok (s.drop i) hne
      rw [ht] at hok
      obtain ⟨o1, o2, o3⟩ := hok
      have htx := tok_text ht hk
      rw [List.length_drop] at o1
      have hlen : t.text.length = m := by rw [htx, List.length_take, List.length_drop]; omega
      rw [List.map_cons]
      refine .cons (k := i) hn ⟨hb, ?_, ?_⟩ ((ih h1 fun x hx => hp x (by simp [hx])).low (by omega))
      · show i + t.text.length ≤ s.length
        omega
      · show (s.drop i).take t.text.length = t.text
        rw [hlen]
        exact htx.symm
def headM : NodeD → Mark
  | .ver v => ([86, 69, 82, 83, 73, 79, 78], v.line, v.col)
  | .sta s => ([66, 85, 95], s.line, s.col)
  | .msg m => ([66, 79, 95], m.line, m.col)
  | .tab t => ([86, 65, 76, 95], t.line, t.col)
theorem head_sub (y : NodeD) : List.Sublist [headM y] (nodM y) := by
  cases y <;> simp [headM, nodM, msgM]
theorem heads_sub (l : List NodeD) : List.Sublist (l.map headM) (l.flatMap nodM) := by
  induction l with
  | nil => exact .slnil
  | cons y l ih =>
    rw [List.map_cons, List.flatMap_cons]
    exact (head_sub y).append ih
theorem msg_sub {l : List NodeD} {m : MsgD} (h : NodeD.msg m ∈ l) : List.Sublist (msgM m) (l.flatMap nodM) := by
  induction l with
  | nil => cases h
  | cons y l ih =>
    rw [List.flatMap_cons]
    rcases List.mem_cons.1 h with h1 | h1
    · rw [← h1]
      exact List.sublist_append_left _ _
    · exact (ih h1).trans (List.sublist_append_right _ _)
theorem source_stands {s : List UInt8} {T ts' : List TokD} {l : List NodeD} (h1 : scanL s = .good T) (hb : TsB T) (h2 : sourceR T = .ok l ts') : Stands s 0 (l.flatMap nodM) := by
  obtain ⟨⟨u, a, b, c⟩, -⟩ := source_holds h2 hb
  rw [← b]
  exact (scanL_chain h1).stands a c
end Go.Proofs.YtlacjhjckkablaaGreatDoor

namespace Go.Proofs.YtlacjhjckkablaaGreatDoor
set_option linter.unusedVariables false
open Go.RowKit

set_option maxRecDepth 100000 in
set_option maxHeartbeats 4000000 in
theorem nstations_any (x : StaD) (w : World) (cs : Array Value) (hx : rdSta w x cs.toList) (hr : x.names.length * 16 ≤ 140737488355328) :
    Calls Tryz.prog 58 #[.agg cs] w fun e w' => ∃ C : Array Value, e = .returned (.agg C) ∧ fdSta w' x C.toList ∧ Below w.heap.size w w' := by
  obtain ⟨a, cap, ecs, hs⟩ := hx
  obtain rfl : cs = x.cells (.slice a x.names.length cap) := Array.toList_inj.1 ecs
  clear ecs
  have e0 := StaD.cells_size x (.slice a x.names.length cap)
  have e2 := StaD.cells_to x (.slice a x.names.length cap)
  have ES := Lib.hid (StaD.cells_set x (.slice a x.names.length cap))
  have EO := Lib.hid (StaD.cells_one x)
  have EZ := Lib.hid (StaD.cells_size x)
  have e3 : ∀ h, (x.cells (.slice a x.names.length cap))[2]'h = .slice a x.names.length cap := fun _ => rfl
  have c := fun W hW => cloneTx_any x.names x.names.length rfl a cap W hW hr
  generalize x.cells (.slice a x.names.length cap) = C at *
  obtain ⟨zb, zz, hbz⟩ := box2 w C zeroStaD 33 33
  have hu := Tryz.underlying33
  have hb3 := hbz.2
  go_enter Tryz.func58, Tryz.ntmps58
  go_wp2_with fail
  with_reducible refine (c _ (hs.keep hb3 (Nat.le_refl _))).mono ?_
  rintro e w1 ⟨v, rfl, ho, hb⟩
  obtain ⟨a2, c2, rfl, -⟩ := ho.shape
  have hb4 := bstep hb3 hb (Nat.le_refl _)
  have t3 := zb.keep hb (Nat.le_refl _)
  have t2 := zz.keep hb (Nat.le_refl _)
  have T3 := Lib.hid ((t3.put 2 (.slice a2 x.names.length c2)))
  have T2 := Lib.hid (t2.other (a := ⟨w.heap.size, 2, none⟩) (show w.heap.size ≠ w.heap.size + 1 by omega) (.slice a2 x.names.length c2))
  rw [ES.out] at T3
  have f0 := t3.cell 2 _ e2
  have f1 := t3.free 2
  have q0 := EZ.out (.slice a2 x.names.length c2)
  have q1 := EO.out a2 x.names.length c2
  have HO := Lib.hid ho
  have HB4 := Lib.hid hb4
  have HSZ := Lib.hid hb.size
  generalize hD : x.cells (.slice a2 x.names.length c2) = D at *
  have HD := Lib.hid hD
  clear hD
  clear t3 t2 hb hb3 hb4 c zb zz hbz hs ho
  go_wp2_with (first | (refine wpList_loadS T3.out 33 (.tmp 1) hu (by rw [q0]; exact sta_size) ?_) | (refine wpList_storeS T2.out 33 (.tmp 2) (.tmp 7) (by rw [q0]; exact sta_size) (by rw [q0]; rfl) q1 ?_))
  have hrun := run_loadS (T2.out.row D) 33 _ hu rfl (by rw [q0]; exact sta_size)
  have hb5 := HB4.out
  have hz : w.heap.size + 1 + 1 ≤ w1.heap.size := Nat.le_trans (by simp) HSZ.out
  refine bodyPost_ret (v := .agg D) (by simp [results, Tryz.results58, Act.put, asAddr, hrun]) rfl ⟨D, rfl, ⟨_, by rw [← HD.out], ?_⟩, ?_⟩
  · refine Owns.ofBlock (HO.out.fromBase (Nat.zero_le _)) fun k hk => ?_
    have hk2 : w.heap.size + 1 + 1 ≤ k := Nat.le_trans (by simp) (HO.out.lt k hk).1
    rw [heap_setRow_other _ _ _ _ (show k ≠ w.heap.size + 1 by omega)]
    exact Below.heap_setCell _ _ _ _ (by show k ≠ w.heap.size; omega)
  · exact below_row (hb5.setCell (by show w.heap.size ≤ w.heap.size; omega) _) (by omega) _

set_option maxRecDepth 100000 in
set_option maxHeartbeats 4000000 in
theorem ntable_any (x : TabD) (w : World) (cs : Array Value) (hx : rdTab w x cs.toList) (hr : x.rows.length * 24 ≤ 140737488355328) :
    Calls Tryz.prog 60 #[.agg cs] w fun e w' => ∃ C : Array Value, e = .returned (.agg C) ∧ fdTab w' x C.toList ∧ Below w.heap.size w w' := by
  obtain ⟨a, cap, ecs, hs⟩ := hx
  obtain rfl : cs = x.cells (.slice a x.rows.length cap) := Array.toList_inj.1 ecs
  clear ecs
  have e0 := TabD.cells_size x (.slice a x.rows.length cap)
  have e2 := TabD.cells_to x (.slice a x.rows.length cap)
  have ES := Lib.hid (TabD.cells_set x (.slice a x.rows.length cap))
  have EO := Lib.hid (TabD.cells_one x)
  have EZ := Lib.hid (TabD.cells_size x)
  have e3 : ∀ h, (x.cells (.slice a x.rows.length cap))[5]'h = .slice a x.rows.length cap := fun _ => rfl
  have c := fun W hW => cloneRw_any x.rows x.rows.length rfl a cap W hW hr
  generalize x.cells (.slice a x.rows.length cap) = C at *
  obtain ⟨zb, zz, hbz⟩ := box2 w C zeroTabD 111 111
  have hu := Tryz.underlying111
  have hb3 := hbz.2
  go_enter Tryz.func60, Tryz.ntmps60
  go_wp2_with fail
  with_reducible refine (c _ (hs.keep hb3 (Nat.le_refl _))).mono ?_
  rintro e w1 ⟨v, rfl, ho, hb⟩
  obtain ⟨a2, c2, rfl, -⟩ := ho.shape
  have hb4 := bstep hb3 hb (Nat.le_refl _)
  have t3 := zb.keep hb (Nat.le_refl _)
  have t2 := zz.keep hb (Nat.le_refl _)
  have T3 := Lib.hid ((t3.put 5 (.slice a2 x.rows.length c2)))
  have T2 := Lib.hid (t2.other (a := ⟨w.heap.size, 5, none⟩) (show w.heap.size ≠ w.heap.size + 1 by omega) (.slice a2 x.rows.length c2))
  rw [ES.out] at T3
  have f0 := t3.cell 5 _ e2
  have f1 := t3.free 5
  have q0 := EZ.out (.slice a2 x.rows.length c2)
  have q1 := EO.out a2 x.rows.length c2
  have HO := Lib.hid ho
  have HB4 := Lib.hid hb4
  have HSZ := Lib.hid hb.size
  generalize hD : x.cells (.slice a2 x.rows.length c2) = D at *
  have HD := Lib.hid hD
  clear hD
  clear t3 t2 hb hb3 hb4 c zb zz hbz hs ho
  go_wp2_with (first | (refine wpList_loadS T3.out 111 (.tmp 1) hu (by rw [q0]; exact tab_size) ?_) | (refine wpList_storeS T2.out 111 (.tmp 2) (.tmp 7) (by rw [q0]; exact tab_size) (by rw [q0]; rfl) q1 ?_))
  have hrun := run_loadS (T2.out.row D) 111 _ hu rfl (by rw [q0]; exact tab_size)
  have hb5 := HB4.out
  have hz : w.heap.size + 1 + 1 ≤ w1.heap.size := Nat.le_trans (by simp) HSZ.out
  refine bodyPost_ret (v := .agg D) (by simp [results, Tryz.results60, Act.put, asAddr, hrun]) rfl ⟨D, rfl, ⟨_, by rw [← HD.out], ?_⟩, ?_⟩
  · refine Owns.ofBlock (HO.out.fromBase (Nat.zero_le _)) fun k hk => ?_
    have hk2 : w.heap.size + 1 + 1 ≤ k := Nat.le_trans (by simp) (HO.out.lt k hk).1
    rw [heap_setRow_other _ _ _ _ (show k ≠ w.heap.size + 1 by omega)]
    exact Below.heap_setCell _ _ _ _ (by show k ≠ w.heap.size; omega)
  · exact below_row (hb5.setCell (by show w.heap.size ≤ w.heap.size; omega) _) (by omega) _

end Go.Proofs.YtlacjhjckkablaaGreatDoor

namespace Go.Proofs.YtlacjhjckkablaaGreatDoor
set_option linter.unusedVariables false
open Go.RowKit

theorem flatMap_set_cell {n : Nat} : ∀ (rows : List (Row n)) (k j : Nat) (hk : k < rows.length) (hj : j < n) (v : Value) (r : Row n), r.1 = rows[k].1.set j v → (rows.set k r).flatMap Row.en = (rows.flatMap Row.en).set (k * n + j) v
  | x :: rows, 0, j, hk, hj, v, r, hr => by
    show r.1 ++ rows.flatMap Row.en = (x.1 ++ rows.flatMap Row.en).set (0 * n + j) v
    rw [hr, Nat.zero_mul, Nat.zero_add, List.set_append_left _ _ (by rw [x.2]; exact hj)]
    rfl
  | x :: rows, k + 1, j, hk, hj, v, r, hr => by
    show x.1 ++ (rows.set k r).flatMap Row.en = (x.1 ++ rows.flatMap Row.en).set ((k + 1) * n + j) v
    rw [flatMap_set_cell rows k j (by simpa using hk) hj v r hr, List.set_append_right _ _ (by rw [x.2, Nat.add_mul]; omega), x.2]
    congr 1
    congr 1
    rw [Nat.add_mul]; omega
theorem Owns.setCellRow {w : World} {base : Nat} {e : TypeId} {n : Nat} {g m cap : Nat} {rows : List (Row n)} (h : Owns w base e n Row.en (.slice (some ⟨g, 0, none⟩) m cap) rows) {k j : Nat} (hk : k < rows.length) (hj : j < n) (v : Value) (r : Row n) (hr : r.1 = rows[k].1.set j v) :
    Owns (w.setCell ⟨g, k * n + j, none⟩ v) base e n Row.en (.slice (some ⟨g, 0, none⟩) m cap) (rows.set k r) := by
  unfold Owns
  rw [flatMap_set_cell rows k j hk hj v r hr, List.length_set]
  have hle : (k + 1) * n ≤ rows.length * n := Nat.mul_le_mul_right _ (by omega)
  rw [Nat.add_mul] at hle
  exact ownsRow_setRow (k * n + j) [v] h (by rw [flatMap_length Row.en_len]; simp; omega)
theorem all2_of {α β : Type} {R : α → β → Prop} : ∀ (xs : List α) (ys : List β), xs.length = ys.length → (∀ j (h1 : j < xs.length) (h2 : j < ys.length), R xs[j] ys[j]) → All2 R xs ys
  | [], [], _, _ => .nil
  | x :: xs, y :: ys, hl, h => .cons (h 0 (by simp) (by simp)) (all2_of xs ys (by simpa using hl) fun j h1 h2 => h (j + 1) (by simpa using h1) (by simpa using h2))
  | [], _ :: _, hl, _ => by simp at hl
  | _ :: _, [], hl, _ => by simp at hl
/-- the signals' rows, the first k of them made anew -/
def MixR (w wr : World) (k : Nat) (xs : List SigX) (rows : List (Row 19)) : Prop := xs.length = rows.length ∧ ∀ j (h1 : j < xs.length) (h2 : j < rows.length), (j < k → fdSig wr xs[j] rows[j].1) ∧ (k ≤ j → rdSig w xs[j] rows[j].1)
theorem MixR.next {w wr wr' : World} {k : Nat} {xs : List SigX} {rows : List (Row 19)} (h : MixR w wr k xs rows) (hk : k < rows.length) (hk' : k < xs.length) (r : Row 19) (hr : fdSig wr' xs[k] r.1) (hm : ∀ x cs, fdSig wr x cs → fdSig wr' x cs) : MixR w wr' (k + 1) xs (rows.set k r) := by
  refine ⟨by rw [List.length_set]; exact h.1, fun j h1 h2 => ?_⟩
  rw [List.length_set] at h2
  by_cases hj : k = j
  · subst hj
    refine ⟨fun _ => ?_, fun h3 => by omega⟩
    simpa using hr
  · rw [List.getElem_set_ne hj]
    exact ⟨fun h3 => hm _ _ ((h.2 j h1 h2).1 (by omega)), fun h3 => (h.2 j h1 h2).2 (by omega)⟩
theorem rdSig_oneR {w : World} {x : SigX} {r : Row 19} (h : rdSig w x r.1) : OneR r := by
  obtain ⟨a, cap, e, -⟩ := h
  intro u hu
  unfold Row.en at hu
  rw [e] at hu
  have := SigD.cells_one x.d a x.rs.length cap
  exact (Array.all_eq_true_iff_forall_mem.1 this) u (Array.mem_toList_iff.1 hu)

set_option maxRecDepth 100000 in
set_option maxHeartbeats 8000000 in
theorem nmessage_own (x : MsgD) (w : World) (cs : Array Value) (hx : rdMsg w x cs.toList) (hr : x.sigs.length ≤ 4000000) (hr2 : ∀ s ∈ x.sigs, s.rs.length ≤ 4000000) :
    Calls Tryz.prog 59 #[.agg cs] w fun e w' => ∃ C : Array Value, e = .returned (.agg C) ∧ (∃ v, C.toList = (x.cells v).toList ∧ OwnRd w' w.heap.size 82 fdSig 19 v x.sigs) ∧ Below w.heap.size w w' := by
  obtain ⟨a, cap, ecs, rows, hs, h2⟩ := hx
  obtain rfl : cs = x.cells (.slice a x.sigs.length cap) := Array.toList_inj.1 ecs
  clear ecs
  have hlen := h2.len
  have hone : ∀ r : Row 19, r ∈ rows → OneR r := by
    intro r hr
    obtain ⟨j, hj, rfl⟩ := List.mem_iff_getElem.1 hr
    exact rdSig_oneR (h2.get (by omega) hj)
  have hmix : MixR w w 0 x.sigs rows := ⟨hlen, fun j h3 h4 => ⟨fun h => by omega, fun _ => h2.get h3 h4⟩⟩
  have c := fun W hW => cloneSg_any rows hone x.sigs.length hlen a cap W hW (by omega)
  have e0 := MsgD.cells_size x (.slice a x.sigs.length cap)
  have e2 := MsgD.cells_to x (.slice a x.sigs.length cap)
  have ES := Lib.hid (MsgD.cells_set x (.slice a x.sigs.length cap))
  have EO := Lib.hid (MsgD.cells_one x)
  have EZ := Lib.hid (MsgD.cells_size x)
  have ET := Lib.hid (fun v => MsgD.cells_to x v)
  have HR2 := Lib.hid hr2
  have e3 : ∀ h, (x.cells (.slice a x.sigs.length cap))[7]'h = .slice a x.sigs.length cap := fun _ => rfl
  generalize x.cells (.slice a x.sigs.length cap) = C at *
  obtain ⟨zb, zz, hz2, hbz⟩ := box2 w C zeroMsgD 77 77
  have hu := Tryz.underlying77
  have hb3 := hbz
  have HMIX := Lib.hid hmix
  have HLEN := Lib.hid hlen
  clear hmix hlen h2 hone hr2
  go_enter Tryz.func59, Tryz.ntmps59
  go_wp2_with fail
  with_reducible refine (c _ (hs.keep hb3 (Nat.le_refl _))).mono ?_
  rintro e w1 ⟨v, rfl, ho, hb⟩
  have hosh := ho.shape
  rw [← HLEN.out] at hosh
  obtain ⟨a2, c2, rfl, -⟩ := hosh
  have hb4 := bstep hb3 hb (Nat.le_refl _)
  have t3 := zb.keep hb (Nat.le_refl _)
  have t2 := Blk.kindAt (show ((w.alloc (.cells C 77)).alloc (.cells zeroMsgD 77)).heap[w.heap.size + 1]? = some (.cells zeroMsgD 77) by simpa using heap_alloc_new (w.alloc (.cells C 77)) (.cells zeroMsgD 77)) hb
  have T3 := Lib.hid ((t3.put 7 (.slice a2 x.sigs.length c2)))
  have T2 := Lib.hid (setCell_ne t2 (show w.heap.size + 1 ≠ w.heap.size by omega) 7 (.slice a2 x.sigs.length c2))
  rw [ES.out] at T3
  have f0 := t3.cell 7 _ e2
  have f1 := t3.free 7
  have hbase : w.heap.size + 2 ≤ ((w.alloc (.cells C 77)).alloc (.cells zeroMsgD 77)).heap.size := by simp
  have HO := Lib.hid (show Owns (w1.setCell ⟨w.heap.size, 7, none⟩ (.slice a2 x.sigs.length c2)) (w.heap.size + 2) 82 19 Row.en (.slice a2 x.sigs.length c2) rows from by
    refine Owns.ofBlock (ho.fromBase hbase) fun k hk => ?_
    have hk2 : w.heap.size + 2 ≤ k := Nat.le_trans hbase (ho.lt k hk).1
    exact Below.heap_setCell _ _ _ _ (by show k ≠ w.heap.size; omega))
  have HB4 := Lib.hid (below_set hb4 (Nat.le_refl _) 7 (.slice a2 x.sigs.length c2))
  generalize hCx : x.cells (.slice a2 x.sigs.length c2) = C2 at *
  have f7 := T3.out.cell 7 _ (by rw [← hCx]; exact ET.out _)
  have HC2 := Lib.hid hCx
  have q0 := Lib.hid (show C2.size = 8 by rw [← hCx]; exact EZ.out _)
  have q1 := Lib.hid (show C2.all (·.oneCell') = true by rw [← hCx]; exact EO.out a2 x.sigs.length c2)
  clear hCx t3 t2 hb hb3 hb4 c zb zz hbz hs ho hz2 e0 e2 e3 ET hbase
  generalize hL : x.sigs = L at *
  have HL := Lib.hid hL
  clear hL
  go_wp2_with fail
  clear f0 f1
  generalize w1.setCell ⟨w.heap.size, 7, none⟩ (.slice a2 L.length c2) = w2 at *
  have hSW := Lib.hid (Below.refl w2.heap.size w2)
  go_loopw [11] (fun i wr => ∃ (k : Nat) (rs : List (Row 19)), k ≤ L.length ∧ i = .int .i64 (k : Nat) ∧ MixR w wr k L rs ∧ Owns wr (w.heap.size + 2) 82 19 Row.en (.slice a2 L.length c2) rs ∧ Below w.heap.size w wr ∧ Blk wr w.heap.size C2 ∧ wr.heap[w.heap.size + 1]? = some (.cells zeroMsgD 77)) (fun i _ => L.length - (intOf i).toNat)
  case atStart =>
    refine ⟨0, rows, Nat.zero_le _, rfl, ?_, HO.out, HB4.out, T3.out, T2.out⟩
    exact ⟨HMIX.out.1, fun j h3 h4 => ⟨fun h => by omega, (HMIX.out.2 j h3 h4).2⟩⟩
  case round =>
    clear f7 HO HB4 T3 T2 HMIX HLEN hSW
    obtain ⟨k, rs, hk, rfl, hmix, hown, hbel, t3, t2⟩ := hrel
    have hlr := hmix.1
    have f7 := t3.cell 7 (.slice a2 L.length c2) (by rw [← HC2.out]; rfl)
    by_cases hlt : (k : Int) < L.length
    · have hlt' : k < L.length := by omega
      have hltr : k < rs.length := by omega
      have hbk := hown.block (by omega)
      rw [← hlr] at hbk
      obtain ⟨g, cap', hv, hg1, hg2, hg3, hg4⟩ := hbk
      obtain ⟨rfl, rfl⟩ : a2 = some ⟨g, 0, none⟩ ∧ c2 = cap' := by cases hv; exact ⟨rfl, rfl⟩
      clear hv
      obtain ⟨b', o', e', -, hcell⟩ := SlOf.cells hown.sl.2 Row.en_len (by decide) hltr
      cases e'
      have h18 := hcell 18 (by decide)
      obtain ⟨a', n', er, hsx⟩ := (hmix.2 k hlt' hltr).2 (Nat.le_refl _)
      have hsx2 := hsx.keep hbel (Nat.le_refl _)
      unfold Row.en at h18
      rw [er] at h18
      rw [show ((L[k].d.cells (.slice a' L[k].rs.length n')).toList)[18]? = some (.slice a' L[k].rs.length n') from rfl, Nat.zero_add] at h18
      have hfr := hown.free (k * 19 + 18)
      have cT := fun (W : World) (hW : SlX W a' n' L[k].rs) => cloneTx_any L[k].rs L[k].rs.length rfl a' n' W hW (by have := HR2.out _ (List.getElem_mem hlt'); omega)
      have HK := Lib.hid (⟨hmix, hown, t3, t2, hbel⟩ : MixR w wr k L rs ∧ Owns wr (w.heap.size + 2) 82 19 Row.en (.slice (some ⟨g, 0, none⟩) L.length c2) rs ∧ Blk wr w.heap.size C2 ∧ wr.heap[w.heap.size + 1]? = some (.cells zeroMsgD 77) ∧ Below w.heap.size w wr)
      have HER := Lib.hid er
      have HSX := Lib.hid hsx2
      clear hmix hown t3 t2 hbel er hsx hsx2 hcell
      generalize hy : L[k] = y at *
      have HY := Lib.hid hy
      clear hy
      have hw7 : w.heap.size < wr.heap.size := HK.out.2.2.1.lt
      have HLR := Lib.hid hlr
      clear hlr
      go_wp2_with fail

      refine wp_region_held_drew (S := (fun (w' : World) => w'.cell? ⟨w.heap.size, 7, none⟩ = some (.slice (some ⟨g, 0, none⟩) L.length c2))) (by kernel_rfl) f7 (fun hHeld => ?_)
      refine held_take 0 (v := ?_) rfl (by kernel_rfl) (by kernel_rfl) (by kernel_rfl) (fun _ _ _ h => h) (by assumption) ?_ ?_
      rotate_left
      · first | (refine Or.inr ⟨?_, ?_⟩ <;> rfl) | (refine Or.inl ⟨by rfl, ?_⟩; intro w hSw; (try dsimp only at hSw); first | (go_simp; done) | (go_simp; with_reducible rfl))
      try simp only [Act.put, List.setIfInBounds_toArray, List.set_cons_zero, List.set_cons_succ]
      refine held_take 1 (v := ?_) rfl (by kernel_rfl) (by kernel_rfl) (by kernel_rfl) (fun _ _ _ h => h) (by assumption) ?_ ?_
      rotate_left
      · first | (refine Or.inr ⟨?_, ?_⟩ <;> rfl) | (refine Or.inl ⟨by rfl, ?_⟩; intro w hSw; (try dsimp only at hSw); first | (go_simp; done) | (go_simp; with_reducible rfl))
      try simp only [Act.put, List.setIfInBounds_toArray, List.set_cons_zero, List.set_cons_succ]
      refine held_take 2 (v := ?_) rfl (by kernel_rfl) (by kernel_rfl) (by kernel_rfl) (fun _ _ _ h => h) (by assumption) ?_ ?_
      rotate_left
      · first | (refine Or.inr ⟨?_, ?_⟩ <;> rfl) | (refine Or.inl ⟨by rfl, ?_⟩; intro w hSw; (try dsimp only at hSw); first | (go_simp; done) | (go_simp; with_reducible rfl))
      try simp only [Act.put, List.setIfInBounds_toArray, List.set_cons_zero, List.set_cons_succ]
      refine held_take 3 (v := ?_) rfl (by kernel_rfl) (by kernel_rfl) (by kernel_rfl) (fun _ _ _ h => h) (by assumption) ?_ ?_
      rotate_left
      · first | (refine Or.inr ⟨?_, ?_⟩ <;> rfl) | (refine Or.inl ⟨by rfl, ?_⟩; intro w hSw; (try dsimp only at hSw); first | (go_simp; done) | (go_simp; with_reducible rfl))
      try simp only [Act.put, List.setIfInBounds_toArray, List.set_cons_zero, List.set_cons_succ]
      refine held_take 4 (v := ?_) rfl (by kernel_rfl) (by kernel_rfl) (by kernel_rfl) (fun _ _ _ h => h) (by assumption) ?_ ?_
      rotate_left
      · first | (refine Or.inr ⟨?_, ?_⟩ <;> rfl) | (refine Or.inl ⟨by rfl, ?_⟩; intro w hSw; (try dsimp only at hSw); first | (go_simp; done) | (go_simp; with_reducible rfl))
      try simp only [Act.put, List.setIfInBounds_toArray, List.set_cons_zero, List.set_cons_succ]
      refine held_take 5 (v := ?_) rfl (by kernel_rfl) (by kernel_rfl) (by kernel_rfl) (fun _ _ _ h => h) (by assumption) ?_ ?_
      rotate_left
      · first | (refine Or.inr ⟨?_, ?_⟩ <;> rfl) | (refine Or.inl ⟨by rfl, ?_⟩; intro w hSw; (try dsimp only at hSw); first | (go_simp; done) | (go_simp; with_reducible rfl))
      try simp only [Act.put, List.setIfInBounds_toArray, List.set_cons_zero, List.set_cons_succ]
      refine held_take 6 (v := ?_) rfl (by kernel_rfl) (by kernel_rfl) (by kernel_rfl) (fun _ _ _ h => h) (by assumption) ?_ ?_
      rotate_left
      · first | (refine Or.inr ⟨?_, ?_⟩ <;> rfl) | (refine Or.inl ⟨by rfl, ?_⟩; intro w hSw; (try dsimp only at hSw); first | (go_simp; done) | (go_simp; with_reducible rfl))
      try simp only [Act.put, List.setIfInBounds_toArray, List.set_cons_zero, List.set_cons_succ]
      refine held_take 7 (v := ?_) rfl (by kernel_rfl) (by kernel_rfl) (by kernel_rfl) (fun _ _ _ h => h) (by assumption) ?_ ?_
      rotate_left
      · first | (refine Or.inr ⟨?_, ?_⟩ <;> rfl) | (refine Or.inl ⟨by rfl, ?_⟩; intro w hSw; (try dsimp only at hSw); first | (go_simp; done) | (go_simp; with_reducible rfl))
      try simp only [Act.put, List.setIfInBounds_toArray, List.set_cons_zero, List.set_cons_succ]

      refine held_call 8 rfl (by kernel_rfl) (fun K hK => ?_)
      go_simp
      refine hK.out _ _ ?_ (fun hHeld => ?_)
      · exact f7
      clear hK K
      try simp only [Act.put, List.setIfInBounds_toArray, List.set_cons_zero, List.set_cons_succ]
      refine held_call 9 rfl (by kernel_rfl) (fun K hK => ?_)
      go_simp
      with_reducible refine (cT _ (SlOf.drew HSX.out)).mono ?_
      rintro e w3 ⟨v, rfl, ho, hb⟩
      refine hK.out _ _ ?_ (fun hHeld => ?_)
      · exact cell_keep' (w := wr.drew) f7 hb
      clear hK K
      obtain ⟨a5, c5, rfl, -⟩ := ho.shape
      have hb5 : Below wr.heap.size wr w3 := (Below.refl wr.heap.size wr).drew.trans hb
      try simp only [Act.put, List.setIfInBounds_toArray, List.set_cons_zero, List.set_cons_succ]
      refine held_take 10 (v := ?_) rfl (by kernel_rfl) (by kernel_rfl) (by kernel_rfl) (fun _ _ _ h => h) (by assumption) ?_ ?_
      rotate_left
      · first | (refine Or.inr ⟨?_, ?_⟩ <;> rfl) | (refine Or.inl ⟨by rfl, ?_⟩; intro w hSw; (try dsimp only at hSw); first | (go_simp; done) | (go_simp; with_reducible rfl))
      try simp only [Act.put, List.setIfInBounds_toArray, List.set_cons_zero, List.set_cons_succ]
      refine held_take 11 (v := ?_) rfl (by kernel_rfl) (by kernel_rfl) (by kernel_rfl) (fun _ _ _ h => h) (by assumption) ?_ ?_
      rotate_left
      · first | (refine Or.inr ⟨?_, ?_⟩ <;> rfl) | (refine Or.inl ⟨by rfl, ?_⟩; intro w hSw; (try dsimp only at hSw); first | (go_simp; done) | (go_simp; with_reducible rfl))
      try simp only [Act.put, List.setIfInBounds_toArray, List.set_cons_zero, List.set_cons_succ]
      refine held_call 12 rfl (by kernel_rfl) (fun K hK => ?_)
      have h18b := cell_keep' h18 hb5
      have hfrb : w3.frozen? ⟨g, k * 19 + 18, none⟩ = false := by rw [frozen_keep hb5 hg2]; exact hfr
      go_simp
      have hne7 : w.heap.size ≠ g := by omega
      refine hK.out _ _ ?_ (fun hHeld2 => ?_)
      · exact (World.cell?_of_block (Below.heap_setCell _ _ _ _ (show w.heap.size ≠ g from hne7))).trans hHeld
      clear hK K hHeld hHeld2
      refine wpAnyH_done (by kernel_rfl) ?_ _
      obtain ⟨hmix, hown, t3, t2, hbel⟩ := HK.out
      have hown3 := hown.keep hb5 (Nat.le_refl _)
      obtain ⟨Cg, fz, hkg⟩ := Lib.ownsRow_kind hown3 g rfl
      have hs4 : ∀ z cs, fdSig w3 z cs → fdSig (w3.setCell ⟨g, k * 19 + 18, none⟩ (.slice a5 y.rs.length c5)) z cs := fun z cs hz => apt_fdSig (by decide) _ _ _ _ _ _ _ hz hkg (by simp [World.setCell]) (fun b _ hne => Below.heap_setCell _ _ _ _ hne)
      obtain ⟨r, hr1⟩ : ∃ r : Row 19, r.1 = rs[k].1.set 18 (.slice a5 y.rs.length c5) := ⟨⟨rs[k].1.set 18 (.slice a5 y.rs.length c5), by rw [List.length_set]; exact rs[k].2⟩, rfl⟩
      have hfr1 : fdSig (w3.setCell ⟨g, k * 19 + 18, none⟩ (.slice a5 y.rs.length c5)) y r.1 := hs4 _ _ ⟨.slice a5 y.rs.length c5, by rw [hr1, HER.out]; rfl, ho.fromBase (Nat.zero_le _)⟩
      have hfr2 : fdSig (w3.setCell ⟨g, k * 19 + 18, none⟩ (.slice a5 y.rs.length c5)) L[k] r.1 := by rw [HY.out]; exact hfr1
      have m1 := Lib.hid (hmix.next hltr hlt' r hfr2 (fun z cs hz => hs4 _ _ (last_fdSig _ _ _ _ hz hb5)))
      have m2 := Lib.hid (hown3.setCellRow hltr (by decide) (.slice a5 y.rs.length c5) r hr1)
      have m3 := Lib.hid (below_set (bstep hbel hb5 (Nat.le_refl _)) (show w.heap.size ≤ g by omega) (k * 19 + 18) (.slice a5 y.rs.length c5))
      have m4 := Lib.hid ((t3.keep hb5 (Nat.le_refl _)).other (a := ⟨g, k * 19 + 18, none⟩) (show g ≠ w.heap.size by omega) (.slice a5 y.rs.length c5))
      have m5 := Lib.hid (setCell_ne (Blk.kindAt t2 hb5) (show w.heap.size + 1 ≠ g by omega) (k * 19 + 18) (.slice a5 y.rs.length c5))
      clear hmix hown t3 t2 hbel hown3 hkg hs4 hfr1 hfr2 HK ho hb hb5 h18 h18b hfr hfrb f7 cT HSX
      go_wp2_with fail
      go_roundw
      case rel => exact ⟨k + 1, rs.set k r, by omega, by go_num, m1.out, m2.out, m3.out, m4.out, m5.out⟩
      case measure => simp [intOf]; omega
    · obtain rfl : k = L.length := by omega
      have HMX := Lib.hid hmix
      have HO := Lib.hid hown
      have HB := Lib.hid hbel
      have T3 := Lib.hid t3
      have K2 := Lib.hid t2
      have T2 := Lib.hid (show Blk wr (w.heap.size + 1) zeroMsgD from ⟨_, t2⟩)
      have q0 := q0.out
      have q1 := q1.out
      clear hmix hown hbel t3 t2 hlr hlt f7
      go_wp2_with (first | (refine wpList_loadS T3.out 77 (.tmp 1) hu (by rw [q0]; exact msg_size) ?_) | (refine wpList_storeS T2.out 77 (.tmp 2) (.tmp 27) (by rw [q0]; exact msg_size) (by rw [q0]; rfl) q1 ?_))
      have hrun := run_loadS (T2.out.row C2) 77 _ hu rfl (by rw [q0]; exact msg_size)
      have hb6 := below_row HB.out (show w.heap.size ≤ w.heap.size + 1 by omega) C2
      refine bodyPost_ret (v := .agg C2) (by simp [results, Tryz.results59, Act.put, asAddr, hrun]) rfl ⟨C2, rfl, ⟨_, by rw [← HC2.out], ?_⟩, hb6⟩
      rw [HL.out]
      have hne : ∀ k, (Value.slice a2 L.length c2).ownBlock = some k → k ≠ w.heap.size + 1 := fun k hk => by have := (HO.out.lt k hk).1; omega
      refine ⟨rs, (Owns.ofBlock HO.out fun k hk => heap_setRow_other _ _ _ _ (hne k hk)).fromBase (by omega), all2_of _ _ HMX.out.1 fun j h1 h2 => ?_⟩
      exact apt_fdSig (by decide) _ _ _ _ _ _ _ ((HMX.out.2 j h1 h2).1 h1) K2.out (by simp [World.setRow]) (fun b _ hne => heap_setRow_other _ _ _ _ hne)
theorem nmessage_any (x : MsgD) (w : World) (cs : Array Value) (hx : rdMsg w x cs.toList) (hr : x.sigs.length ≤ 4000000) (hr2 : ∀ s ∈ x.sigs, s.rs.length ≤ 4000000) :
    Calls Tryz.prog 59 #[.agg cs] w fun e w' => ∃ C : Array Value, e = .returned (.agg C) ∧ fdMsg w' x C.toList ∧ Below w.heap.size w w' :=
  (nmessage_own x w cs hx hr hr2).mono fun e w' ⟨C, h1, ⟨v, h2, h3⟩, h4⟩ => ⟨C, h1, ⟨v, h2, h3.fromBase (Nat.zero_le _)⟩, h4⟩
end Go.Proofs.YtlacjhjckkablaaGreatDoor

namespace Go.Proofs.YtlacjhjckkablaaGreatDoor
set_option linter.unusedVariables false
open Go.RowKit

def NodeD.ty : NodeD → TypeId
  | .ver _ => 30
  | .sta _ => 33
  | .msg _ => 77
  | .tab _ => 111
def NodeD.rank : NodeD → Nat
  | .ver _ => 1
  | .sta _ => 2
  | .msg _ => 3
  | .tab _ => 4
def NodeD.kname : NodeD → List UInt8
  | .ver _ => [118, 101, 114, 115, 105, 111, 110]
  | .sta _ => [115, 116, 97, 116, 105, 111, 110, 115]
  | .msg _ => [109, 101, 115, 115, 97, 103, 101]
  | .tab _ => [116, 97, 98, 108, 101]
theorem rdMsg_one {w : World} {x : MsgD} {cs : List Value} (h : rdMsg w x cs) : cs.toArray.size = 8 ∧ cs.toArray.all (·.oneCell') = true := by
  obtain ⟨a, cap, rfl, -⟩ := h
  exact ⟨rfl, by simpa using MsgD.cells_one x a x.sigs.length cap⟩
theorem rdTab_one {w : World} {x : TabD} {cs : List Value} (h : rdTab w x cs) : cs.toArray.size = 6 ∧ cs.toArray.all (·.oneCell') = true := by
  obtain ⟨a, cap, rfl, -⟩ := h
  exact ⟨rfl, by simpa using TabD.cells_one x a x.rows.length cap⟩
theorem run_assert_same {P : Program} {t : TypeId} {fs : Array Field} (hu : P.underlying t = some (.struct fs)) (v : Value) (xT : TypeId) (w : World) : (Instr.typeAssert (.iface t v) xT t true).run P w = .ok (.tuple #[v, .bool true]) w := by
  unfold Instr.typeAssert
  simp only [Sem.run_bind, run_underlying hu, Result.andThen]
  simp
theorem run_assert_other {P : Program} {t s : TypeId} {fs : Array Field} {z : Value} (hu : P.underlying s = some (.struct fs)) (hz : (P.info? s).map (·.zero) = some (some z)) (hne : t ≠ s) (v : Value) (xT : TypeId) (w : World) : (Instr.typeAssert (.iface t v) xT s true).run P w = .ok (.tuple #[z, .bool false]) w := by
  obtain ⟨i, hi, hz⟩ := Option.map_eq_some_iff.1 hz
  unfold Instr.typeAssert
  simp only [Sem.run_bind, run_underlying hu, Result.andThen]
  simp [hne, zeroValue, typeInfo, hi, hz]
theorem asVV (v : Value) (xT : TypeId) (w : World) : (Instr.typeAssert (.iface 30 v) xT 30 true).run Tryz.prog w = .ok (.tuple #[v, .bool true]) w := run_assert_same Tryz.underlying30 v xT w
theorem asVS (v : Value) (xT : TypeId) (w : World) : (Instr.typeAssert (.iface 30 v) xT 33 true).run Tryz.prog w = .ok (.tuple #[.agg zeroStaD, .bool false]) w := run_assert_other Tryz.underlying33 (by kernel_rfl) (by decide) v xT w
theorem asVM (v : Value) (xT : TypeId) (w : World) : (Instr.typeAssert (.iface 30 v) xT 77 true).run Tryz.prog w = .ok (.tuple #[.agg zeroMsgD, .bool false]) w := run_assert_other Tryz.underlying77 (by kernel_rfl) (by decide) v xT w
theorem asVT (v : Value) (xT : TypeId) (w : World) : (Instr.typeAssert (.iface 30 v) xT 111 true).run Tryz.prog w = .ok (.tuple #[.agg zeroTabD, .bool false]) w := run_assert_other Tryz.underlying111 (by kernel_rfl) (by decide) v xT w
theorem asSV (v : Value) (xT : TypeId) (w : World) : (Instr.typeAssert (.iface 33 v) xT 30 true).run Tryz.prog w = .ok (.tuple #[.agg #[.int .i64 0, .int .i64 0, .string ⟨#[]⟩], .bool false]) w := run_assert_other Tryz.underlying30 (by kernel_rfl) (by decide) v xT w
theorem asSS (v : Value) (xT : TypeId) (w : World) : (Instr.typeAssert (.iface 33 v) xT 33 true).run Tryz.prog w = .ok (.tuple #[v, .bool true]) w := run_assert_same Tryz.underlying33 v xT w
theorem asSM (v : Value) (xT : TypeId) (w : World) : (Instr.typeAssert (.iface 33 v) xT 77 true).run Tryz.prog w = .ok (.tuple #[.agg zeroMsgD, .bool false]) w := run_assert_other Tryz.underlying77 (by kernel_rfl) (by decide) v xT w
theorem asST (v : Value) (xT : TypeId) (w : World) : (Instr.typeAssert (.iface 33 v) xT 111 true).run Tryz.prog w = .ok (.tuple #[.agg zeroTabD, .bool false]) w := run_assert_other Tryz.underlying111 (by kernel_rfl) (by decide) v xT w
theorem asMV (v : Value) (xT : TypeId) (w : World) : (Instr.typeAssert (.iface 77 v) xT 30 true).run Tryz.prog w = .ok (.tuple #[.agg #[.int .i64 0, .int .i64 0, .string ⟨#[]⟩], .bool false]) w := run_assert_other Tryz.underlying30 (by kernel_rfl) (by decide) v xT w
theorem asMS (v : Value) (xT : TypeId) (w : World) : (Instr.typeAssert (.iface 77 v) xT 33 true).run Tryz.prog w = .ok (.tuple #[.agg zeroStaD, .bool false]) w := run_assert_other Tryz.underlying33 (by kernel_rfl) (by decide) v xT w
theorem asMM (v : Value) (xT : TypeId) (w : World) : (Instr.typeAssert (.iface 77 v) xT 77 true).run Tryz.prog w = .ok (.tuple #[v, .bool true]) w := run_assert_same Tryz.underlying77 v xT w
theorem asMT (v : Value) (xT : TypeId) (w : World) : (Instr.typeAssert (.iface 77 v) xT 111 true).run Tryz.prog w = .ok (.tuple #[.agg zeroTabD, .bool false]) w := run_assert_other Tryz.underlying111 (by kernel_rfl) (by decide) v xT w
theorem asTV (v : Value) (xT : TypeId) (w : World) : (Instr.typeAssert (.iface 111 v) xT 30 true).run Tryz.prog w = .ok (.tuple #[.agg #[.int .i64 0, .int .i64 0, .string ⟨#[]⟩], .bool false]) w := run_assert_other Tryz.underlying30 (by kernel_rfl) (by decide) v xT w
theorem asTS (v : Value) (xT : TypeId) (w : World) : (Instr.typeAssert (.iface 111 v) xT 33 true).run Tryz.prog w = .ok (.tuple #[.agg zeroStaD, .bool false]) w := run_assert_other Tryz.underlying33 (by kernel_rfl) (by decide) v xT w
theorem asTM (v : Value) (xT : TypeId) (w : World) : (Instr.typeAssert (.iface 111 v) xT 77 true).run Tryz.prog w = .ok (.tuple #[.agg zeroMsgD, .bool false]) w := run_assert_other Tryz.underlying77 (by kernel_rfl) (by decide) v xT w
theorem asTT (v : Value) (xT : TypeId) (w : World) : (Instr.typeAssert (.iface 111 v) xT 111 true).run Tryz.prog w = .ok (.tuple #[v, .bool true]) w := run_assert_same Tryz.underlying111 v xT w

set_option maxRecDepth 100000 in
set_option maxHeartbeats 2000000 in
theorem kind_any (n : NodeD) (C : Array Value) (w : World) :
    Calls Tryz.prog 57 #[.iface n.ty (.agg C)] w fun e w' => e = .returned (.agg #[.int .i64 (n.rank : Nat), .string ⟨n.kname.toArray⟩]) ∧ Below w.heap.size w w' := by
  cases n
  all_goals
    unfold NodeD.ty NodeD.rank NodeD.kname
    simp only
    have hVV := asVV
    have hVS := asVS
    have hVM := asVM
    have hVT := asVT
    have hSV := asSV
    have hSS := asSS
    have hSM := asSM
    have hST := asST
    have hMV := asMV
    have hMS := asMS
    have hMM := asMM
    have hMT := asMT
    have hTV := asTV
    have hTS := asTS
    have hTM := asTM
    have hTT := asTT
    go_enter Tryz.func57, Tryz.ntmps57
    go_wp2_with fail
    refine bodyPost_ret (v := .agg #[_, _]) (by simp [results, Tryz.results57, go_sem]) rfl ⟨rfl, ?_⟩
    exact (Below.refl w.heap.size w).alloc (Nat.le_refl _) _
end Go.Proofs.YtlacjhjckkablaaGreatDoor
