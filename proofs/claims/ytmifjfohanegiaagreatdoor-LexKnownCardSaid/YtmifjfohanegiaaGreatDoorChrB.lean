/-
  chars.Check: contract.
-/
import Derived.Test.YtmifjfohanegiaaGreatDoorChrA
import Derived.Test.YtmifjfohanegiaaGreatDoorRatD
namespace Go.Proofs.YtmifjfohanegiaaGreatDoor
set_option linter.unusedVariables false
open Go.RowKit Go.Shelf
attribute [local go_sem] Oper.semAt_some

def faultV (no line col : Int) : Value := .iface 50 (.agg #[.int .i64 no, .int .i64 line, .int .i64 col])
def checkV (s : List UInt8) : Value :=
  if 1048576 < s.length then errV 5 else match checkL s with
    | none => .nilIface
    | some u => faultV 6 u.line u.col

theorem ext_from (L : List UInt8) (i : Nat) (hi : i ≤ L.length) : (⟨L.toArray⟩ : ByteArray).extract i L.length = ⟨(L.drop i).toArray⟩ := by
  have h : ∀ (a b : ByteArray), a.data.toList = b.data.toList → a = b := fun a b e => by cases a; cases b; simp at e; rw [e]
  apply h
  rw [Go.Lib.extract_data]
  show (L.drop i).take (L.length - i) = L.drop i
  rw [List.take_of_length_le (by rw [List.length_drop]; exact Nat.le_refl _)]
theorem find_none {xs : List Unt} (h : ∀ j (hj : j < xs.length), badU xs[j].rune xs[j].wide = false) : xs.find? (fun u => badU u.rune u.wide) = none := by
  rw [List.find?_eq_none]
  intro u hu
  obtain ⟨j, hj, rfl⟩ := List.getElem_of_mem hu
  rw [h j hj]; decide
theorem find_some {xs : List Unt} {k : Nat} (hk : k < xs.length) (hb : badU xs[k].rune xs[k].wide = true) (h : ∀ j (hj : j < xs.length), j < k → badU xs[j].rune xs[j].wide = false) : xs.find? (fun u => badU u.rune u.wide) = some xs[k] := by
  rw [List.find?_eq_some_iff_getElem]
  exact ⟨hb, k, hk, rfl, fun j hj => by rw [h j (by omega) hj]; rfl⟩
theorem hasPre (l : List UInt8) : Lib.hasPrefix l [239, 191, 189] = true ↔ 3 ≤ l.length ∧ (l.getD 0 0).toNat = 239 ∧ (l.getD 1 0).toNat = 191 ∧ (l.getD 2 0).toNat = 189 := by
  have e : ∀ (a : UInt8) (n : Nat), n < 256 → (a.toNat = n ↔ a = UInt8.ofNat n) := fun a n hn => ⟨fun h => by rw [← h, UInt8.ofNat_toNat], fun h => by rw [h, UInt8.toNat_ofNat_of_lt' (by simpa using hn)]⟩
  rcases l with _ | ⟨a, _ | ⟨b, _ | ⟨c, t⟩⟩⟩
  · simp [Lib.hasPrefix]
  · simp [Lib.hasPrefix]
  · simp [Lib.hasPrefix]
  · simp only [List.length_cons, List.getD_cons_zero, List.getD_cons_succ, e a 239 (by decide), e b 191 (by decide), e c 189 (by decide)]
    show List.isPrefixOf [239, 191, 189] (a :: b :: c :: t) = true ↔ _
    rw [List.isPrefixOf_iff_prefix]
    constructor
    · rintro ⟨m, hm⟩
      simp only [List.cons_append, List.nil_append, List.cons.injEq] at hm
      obtain ⟨h1, h2, h3, _⟩ := hm
      exact ⟨by omega, h1.symm, h2.symm, h3.symm⟩
    · rintro ⟨_, h1, h2, h3⟩
      subst h1 h2 h3
      exact ⟨t, rfl⟩

/-- the unit's five kinds -/
theorem unit_kind (l : List UInt8) (hl : l ≠ []) : ((decL l).1 ≠ 65533 ∧ Lib.runeLen ((decL l).1 : Int) = ((decL l).2 : Int) ∧ badU (decL l).1 (decL l).2 = (ctlU (decL l).1 && !blankU (decL l).1)) ∨
    ((decL l).1 = 65533 ∧ (decL l).2 = 3 ∧ Lib.hasPrefix l [239, 191, 189] = true ∧ badU (decL l).1 (decL l).2 = false) ∨
    ((decL l).1 = 65533 ∧ (decL l).2 = 1 ∧ Lib.hasPrefix l [239, 191, 189] = false ∧ badU (decL l).1 (decL l).2 = true) := by
  by_cases h : (decL l).1 = 65533
  · right
    rcases decN_ill l.length (l.getD 0 0).toNat (l.getD 1 0).toNat (l.getD 2 0).toNat (l.getD 3 0).toNat (UInt8.toNat_lt _) (UInt8.toNat_lt _) (UInt8.toNat_lt _) h with ⟨h1, h2⟩ | ⟨h1, h2⟩
    · right
      have e2 : (decL l).2 = 1 := h1
      refine ⟨h, e2, ?_, ?_⟩
      · rw [Bool.eq_false_iff]; intro h3; exact h2 ((hasPre l).1 h3)
      · unfold badU illU; rw [h, e2]; rfl
    · left
      have e2 : (decL l).2 = 3 := h1
      refine ⟨h, e2, (hasPre l).2 h2, ?_⟩
      unfold badU illU; rw [h, e2]; rfl
  · left
    have hi : illU (decL l).1 (decL l).2 = false := by unfold illU; rw [beq_eq_false_iff_ne.2 h]; rfl
    exact ⟨h, dec_wid l hi, by unfold badU; rw [hi]; rfl⟩

/-- between two rounds -/
def ChkI (s : List UInt8) (w : World) (k : Nat) (W : World) : Prop :=
  (Below w.heap.size w W ∧ Blk W w.heap.size #[.string ⟨s.toArray⟩] ∧ Blk W (w.heap.size + 1) #[.nilIface] ∧ Blk W (w.heap.size + 1 + 1) #[.int .i64 (posU (unitsL s) k : Nat)]) ∧
    ∀ j (hj : j < (unitsL s).length), j < k → badU (unitsL s)[j].rune (unitsL s)[j].wide = false
def ChkX (s : List UInt8) (w : World) (W : World) : Prop := Below w.heap.size w W ∧ ∃ u, checkL s = some u ∧ Blk W (w.heap.size + 1) #[faultV 6 u.line u.col]
def ChkA (s : List UInt8) (w : World) (B : Nat) (k : Nat) (a' : Act) (W : World) : Prop :=
  ∃ (b : Nat) (L C : Int) (R : Nat), B < b ∧ (∀ h : k < (unitsL s).length, L = (unitsL s)[k].line ∧ C = (unitsL s)[k].col ∧ R = (unitsL s)[k].rune) ∧ Blk W b #[.int .i64 L, .int .i64 C] ∧
    a' = { tmps := #[.string ⟨s.toArray⟩, .pointer (some ⟨w.heap.size, 0, none⟩), .pointer (some ⟨w.heap.size + 1, 0, none⟩), .pointer (some ⟨w.heap.size + 1 + 1, 0, none⟩), .pointer (some ⟨b, 0, none⟩), .int .i32 (R : Nat), undef, .string ⟨s.toArray⟩, .int .i64 (s.length : Nat), .bool false, undef, .string ⟨s.toArray⟩, .func (.func 74) #[] #[.pointer (some ⟨w.heap.size + 1 + 1 + 1, 0, none⟩)], .agg #[.int .i64 L, .int .i64 C], .int .i32 (R : Nat), undef, undef, undef, undef, undef, undef, undef, undef, undef, undef, undef, undef, undef, undef, undef, undef, undef, undef, undef, undef, undef, undef, undef, undef, undef, undef, undef, undef, undef, undef, undef, undef, undef, undef], defers := [] }
theorem keepLow {V W W' : World} {j : Nat} {cs : Array Value} (hb : Below V.heap.size W W') (hj : j < V.heap.size) (h : Blk W j cs) : Blk W' j cs := h.same (hb.block _ hj)
theorem ChkI.low {s : List UInt8} {w V : World} (hV : V.heap.size = w.heap.size + 1 + 1 + 1 + 1) (k : Nat) : LowB V.heap.size (ChkI s w k) := fun W W' h hb =>
  ⟨⟨h.1.1.trans (hb.mono (by omega)), keepLow hb (by omega) h.1.2.1, keepLow hb (by omega) h.1.2.2.1, keepLow hb (by omega) h.1.2.2.2⟩, h.2⟩
theorem ChkX.low {s : List UInt8} {w V : World} (hV : V.heap.size = w.heap.size + 1 + 1 + 1 + 1) : LowB V.heap.size (ChkX s w) := fun W W' h hb =>
  ⟨h.1.trans (hb.mono (by omega)), let ⟨u, h1, h2⟩ := h.2; ⟨u, h1, keepLow hb (by omega) h2⟩⟩

set_option maxRecDepth 100000 in
set_option maxHeartbeats 8000000 in
theorem check_short (s : List UInt8) (hs : s.length ≤ 1048576) (w : World) :
    Calls Tryz.prog 19 #[.string ⟨s.toArray⟩] w fun e w' => e = .returned (checkV s) ∧ Below w.heap.size w w' := by
  have hl : ¬ (1048576 : Int) < s.length := by omega
  refine (callsIn_wide (n := 9)).1 ?_
  refine callsIn_of_wp_marks Tryz.func19 rfl trivial ?_ rfl
  simp only [Tryz.ntmps19, List.size_toArray, List.length_cons, List.length_nil, Nat.reduceAdd, Nat.reduceSub, Array.replicate_succ, Array.replicate_zero, List.push_toArray, List.append_toArray, List.nil_append, List.cons_append]
  gi_wp2_with (refine ⟨trivial, ?_⟩; gi_at_call 37; refine (callsIn_wide.2 (all_any _ _)).mono ?_; rintro e w' ⟨rfl, rfl⟩)
  obtain ⟨V0, hV0⟩ : ∃ x, ((w.alloc (.cells #[.string ⟨s.toArray⟩] 9)).alloc (.cells #[.nilIface] 25)).alloc (.cells #[.int .i64 0] 3) = x := ⟨_, rfl⟩
  have b1 : Blk V0 w.heap.size #[.string ⟨s.toArray⟩] := by rw [← hV0]; exact ((Blk.new w _ _).alloc _).alloc _
  have b2 : Blk V0 (w.heap.size + 1) #[.nilIface] := by
    rw [← hV0]; have := Blk.new (w.alloc (.cells #[.string ⟨s.toArray⟩] 9)) #[.nilIface] 25; rw [World.size_alloc] at this; exact this.alloc _
  have b3 : Blk V0 (w.heap.size + 1 + 1) #[.int .i64 0] := by
    rw [← hV0]; have := Blk.new ((w.alloc (.cells #[.string ⟨s.toArray⟩] 9)).alloc (.cells #[.nilIface] 25)) #[.int .i64 0] 3; rw [World.size_alloc, World.size_alloc] at this; exact this
  have hz : V0.heap.size = w.heap.size + 1 + 1 + 1 := by rw [← hV0]; simp
  have hb0 : Below w.heap.size w V0 := by rw [← hV0]; exact (((Below.refl _ w).alloc (Nat.le_refl _) _).alloc (by simp) _).alloc (by simp; omega) _
  rw [hV0]
  clear hV0
  have b4 := Blk.new V0 #[.string ⟨s.toArray⟩] 9
  rw [hz] at b4
  have hz1 : (V0.alloc (.cells #[.string ⟨s.toArray⟩] 9)).heap.size = w.heap.size + 1 + 1 + 1 + 1 := by simp [hz]
  replace hb0 : Below w.heap.size w (V0.alloc (.cells #[.string ⟨s.toArray⟩] 9)) := hb0.alloc (by omega) _
  replace b1 := b1.alloc (.cells #[.string ⟨s.toArray⟩] 9)
  replace b2 := b2.alloc (.cells #[.string ⟨s.toArray⟩] 9)
  replace b3 := b3.alloc (.cells #[.string ⟨s.toArray⟩] 9)
  generalize V0.alloc (.cells #[.string ⟨s.toArray⟩] 9) = V at *
  clear hz
  have HZ := Lib.hid hz1
  have h0 : ChkI s w 0 V := ⟨⟨hb0, b1, b2, by rw [posU_zero]; exact b3⟩, fun j hj h => absurd h (Nat.not_lt_zero _)⟩
  have hall := all1_own s hs (w.heap.size + 1 + 1 + 1) V (by omega) (b4.cell 0 _ rfl) (9 - 1) (by decide)
  clear hz1 b1 b2 b3 b4 hb0 hl
  refine wpIn_rangeOwn rfl (by decide) (gf := 74) (lb := #[.pointer (some ⟨w.heap.size + 1 + 1 + 1, 0, none⟩)]) rfl trivial (enters_of Tryz.func74 (by kernel_rfl) rfl)
    hall (Below.refl _ _) (fun _ => rfl) (ChkI s w) (ChkX s w) (ChkI.low HZ.out) (ChkX.low HZ.out) h0 (ChkA s w (V.heap.size + 1))
    (fun k a' W o h => by
      obtain ⟨b, L, C, R, h1, h2, h3, h4⟩ := h
      exact ⟨b, L, C, R, h1, h2, h3.same (World.putObj_heap_other (by omega)), h4⟩) ?assign ?body ?done ?stop
  case assign =>
    intro k hk W K hi hsz hK
    have HI := Lib.hid hi
    have HK := Lib.hid hK
    clear hi hK h0 hall
    unfold encU
    gi_wp2
    have hbn : Below W.heap.size W (W.alloc (.cells #[.int .i64 (unitsL s)[k].line, .int .i64 (unitsL s)[k].col] 31)) := (Below.refl _ _).alloc (Nat.le_refl _) _
    exact HK.out _ _ (Beyond.of_below hbn) (ChkI.low HZ.out k _ _ HI.out (hbn.mono (by omega))) ⟨W.heap.size, _, _, _, hsz, fun _ => ⟨rfl, rfl, rfl⟩, Blk.new _ _ _, rfl⟩
  case body =>
    intro k hk a' W hi hax hsz
    obtain ⟨⟨hb, b1, b2, b3⟩, hprev⟩ := hi
    obtain ⟨b, L, C, R, hB, hu, bb, rfl⟩ := hax
    obtain ⟨rfl, rfl, rfl⟩ := hu hk
    obtain ⟨u1, u2, u3⟩ := unit_at s k hk
    have hkind := unit_kind (s.drop (posU (unitsL s) k)) (by intro h; have := congrArg List.length h; rw [List.length_drop] at this; simp at this; omega)
    have hw := (dec_w (s.drop (posU (unitsL s) k)))
    rw [List.length_drop] at hw
    have hw3 := hw.2.2 (by intro h; have := congrArg List.length h; rw [List.length_drop] at this; simp at this; omega)
    rw [← u2, ← u3] at hkind
    rw [← u3] at hw3
    have hext := ext_from s (posU (unitsL s) k) (by omega)
    have hpS := posU_succ (unitsL s) k hk
    have HPREV := Lib.hid hprev
    have HPS := Lib.hid hpS
    have HFS := Lib.hid (fun hb : badU (unitsL s)[k].rune (unitsL s)[k].wide = true => (⟨(unitsL s)[k], find_some hk hb hprev, rfl, rfl⟩ : ∃ u, checkL s = some u ∧ u.line = (unitsL s)[k].line ∧ u.col = (unitsL s)[k].col))
    have HNX := Lib.hid (fun (hb : badU (unitsL s)[k].rune (unitsL s)[k].wide = false) j (hj : j < (unitsL s).length) (h : j < k + 1) => show badU (unitsL s)[j].rune (unitsL s)[j].wide = false from by
      by_cases hjk : j < k
      · exact hprev j hj hjk
      · obtain rfl : j = k := by omega
        exact hb)
    have HB1 := Lib.hid b1
    have HB2 := Lib.hid b2
    have HB3 := Lib.hid b3
    have HBW := Lib.hid hb
    clear hw u2 u3 hprev hpS h0 hall hu b1 b2 b3 hb
    have c1 := HB1.out.cell 0 _ rfl
    have c2 := HB2.out.cell 0 _ rfl
    have c3 := HB3.out.cell 0 _ rfl
    have f2 := HB2.out.free 0
    have f3 := HB3.out.free 0
    obtain ⟨e0, e1, _, _⟩ := bb.two
    have cct := fun w => control_any (unitsL s)[k].rune w
    have cbl := fun w => blank_any (unitsL s)[k].rune w
    have crl := fun w => Tryz.utf8_RuneLen ((unitsL s)[k].rune : Int) w
    have chp := fun w => Tryz.strings_HasPrefix ⟨(s.drop (posU (unitsL s) k)).toArray⟩ ⟨#[239, 191, 189]⟩ w
    have hlen : (⟨s.toArray⟩ : ByteArray).size = s.length := rfl
    generalize (unitsL s)[k].line = L at *
    generalize (unitsL s)[k].col = C at *
    generalize (unitsL s)[k].rune = R at *
    generalize (unitsL s)[k].wide = N at *
    generalize posU (unitsL s) k = ps at *
    rcases hkind with ⟨k1, k2, k3⟩ | ⟨k1, k2, k3, k4⟩ | ⟨k1, k2, k3, k4⟩
    · have g1 : ((R : Int) != 65533) = true := by rw [bne_iff_ne]; omega
      have g2 : ((R : Int) == 65533) = false := by rw [beq_eq_false_iff_ne]; omega
      rw [k2] at crl
      clear k2 k1 chp
      cases hc : ctlU R
      · rw [hc] at cct k3
        have HBD := Lib.hid (show badU R N = false from k3)
        clear hc k3
        gi_wp2_with (first | (refine ⟨trivial, ?_⟩; gi_at_call 39; refine (CallsIn.inRound _ (callsIn_wide.2 (crl _))).mono ?_; rintro e w' ⟨rfl, rfl⟩) | (refine ⟨trivial, ?_⟩; gi_at_call 38; refine (CallsIn.inRound _ (callsIn_wide.2 (chp _))).mono ?_; rintro e w' ⟨rfl, rfl⟩) | (refine ⟨trivial, ?_⟩; gi_at_call 40; refine (CallsIn.inRound _ (callsIn_wide.2 (cct _))).mono ?_; rintro e w' ⟨rfl, rfl⟩) | (refine ⟨trivial, ?_⟩; gi_at_call 41; refine (CallsIn.inRound _ (callsIn_wide.2 (cbl _))).mono ?_; rintro e w' ⟨rfl, rfl⟩) | (refine ⟨trivial, ?_⟩))
        refine ⟨(Beyond.refl _ _).setCell (p := ⟨w.heap.size + 1 + 1, 0, none⟩) (by have := HZ.out; show w.heap.size + 1 + 1 < _; omega) _, ⟨⟨HBW.out.setCell (p := ⟨w.heap.size + 1 + 1, 0, none⟩) (by show _ ≤ w.heap.size + 1 + 1; omega) _, HB1.out.other (a := ⟨w.heap.size + 1 + 1, 0, none⟩) (by show w.heap.size + 1 + 1 ≠ _; omega) _, HB2.out.other (a := ⟨w.heap.size + 1 + 1, 0, none⟩) (by show w.heap.size + 1 + 1 ≠ _; omega) _, ?_⟩, HNX.out HBD.out⟩⟩
        rw [HPS.out]
        exact HB3.out.st 0 _
      · cases hbk : blankU R
        · rw [hc] at cct k3
          rw [hbk] at cbl k3
          have HBD := Lib.hid (show badU R N = true from k3)
          clear hc hbk k3
          gi_wp2_with (first | (refine ⟨trivial, ?_⟩; gi_at_call 39; refine (CallsIn.inRound _ (callsIn_wide.2 (crl _))).mono ?_; rintro e w' ⟨rfl, rfl⟩) | (refine ⟨trivial, ?_⟩; gi_at_call 38; refine (CallsIn.inRound _ (callsIn_wide.2 (chp _))).mono ?_; rintro e w' ⟨rfl, rfl⟩) | (refine ⟨trivial, ?_⟩; gi_at_call 40; refine (CallsIn.inRound _ (callsIn_wide.2 (cct _))).mono ?_; rintro e w' ⟨rfl, rfl⟩) | (refine ⟨trivial, ?_⟩; gi_at_call 41; refine (CallsIn.inRound _ (callsIn_wide.2 (cbl _))).mono ?_; rintro e w' ⟨rfl, rfl⟩) | (refine ⟨trivial, ?_⟩))
          obtain ⟨u, hu1, hu2, hu3⟩ := HFS.out HBD.out
          refine ⟨(Beyond.refl _ _).setCell (p := ⟨w.heap.size + 1, 0, none⟩) (by have := HZ.out; show w.heap.size + 1 < _; omega) _, HBW.out.setCell (p := ⟨w.heap.size + 1, 0, none⟩) (by show _ ≤ w.heap.size + 1; omega) _, u, hu1, ?_⟩
          rw [hu2, hu3]
          exact HB2.out.st 0 _
        · rw [hc] at cct k3
          rw [hbk] at cbl k3
          have HBD := Lib.hid (show badU R N = false from k3)
          clear hc hbk k3
          gi_wp2_with (first | (refine ⟨trivial, ?_⟩; gi_at_call 39; refine (CallsIn.inRound _ (callsIn_wide.2 (crl _))).mono ?_; rintro e w' ⟨rfl, rfl⟩) | (refine ⟨trivial, ?_⟩; gi_at_call 38; refine (CallsIn.inRound _ (callsIn_wide.2 (chp _))).mono ?_; rintro e w' ⟨rfl, rfl⟩) | (refine ⟨trivial, ?_⟩; gi_at_call 40; refine (CallsIn.inRound _ (callsIn_wide.2 (cct _))).mono ?_; rintro e w' ⟨rfl, rfl⟩) | (refine ⟨trivial, ?_⟩; gi_at_call 41; refine (CallsIn.inRound _ (callsIn_wide.2 (cbl _))).mono ?_; rintro e w' ⟨rfl, rfl⟩) | (refine ⟨trivial, ?_⟩))
          refine ⟨(Beyond.refl _ _).setCell (p := ⟨w.heap.size + 1 + 1, 0, none⟩) (by have := HZ.out; show w.heap.size + 1 + 1 < _; omega) _, ⟨⟨HBW.out.setCell (p := ⟨w.heap.size + 1 + 1, 0, none⟩) (by show _ ≤ w.heap.size + 1 + 1; omega) _, HB1.out.other (a := ⟨w.heap.size + 1 + 1, 0, none⟩) (by show w.heap.size + 1 + 1 ≠ _; omega) _, HB2.out.other (a := ⟨w.heap.size + 1 + 1, 0, none⟩) (by show w.heap.size + 1 + 1 ≠ _; omega) _, ?_⟩, HNX.out HBD.out⟩⟩
          rw [HPS.out]
          exact HB3.out.st 0 _
    · have g1 : ((R : Int) != 65533) = false := by rw [k1]; rfl
      have g2 : ((R : Int) == 65533) = true := by rw [k1]; rfl
      have g3 : ((N : Int) == 1) = false := by rw [k2]; rfl
      have crl3 := fun w => crl w
      rw [show Lib.runeLen (R : Int) = (N : Int) by rw [k1, k2]; rfl] at crl
      have chp2 := fun w => chp w
      rw [k3] at chp
      rw [show ctlU R = false by rw [k1]; rfl] at cct
      have HBD := Lib.hid (show badU R N = false from k4)
      clear k1 k2 k3 k4 crl3 chp2
      gi_wp2_with (first | (refine ⟨trivial, ?_⟩; gi_at_call 39; refine (CallsIn.inRound _ (callsIn_wide.2 (crl _))).mono ?_; rintro e w' ⟨rfl, rfl⟩) | (refine ⟨trivial, ?_⟩; gi_at_call 38; refine (CallsIn.inRound _ (callsIn_wide.2 (chp _))).mono ?_; rintro e w' ⟨rfl, rfl⟩) | (refine ⟨trivial, ?_⟩; gi_at_call 40; refine (CallsIn.inRound _ (callsIn_wide.2 (cct _))).mono ?_; rintro e w' ⟨rfl, rfl⟩) | (refine ⟨trivial, ?_⟩; gi_at_call 41; refine (CallsIn.inRound _ (callsIn_wide.2 (cbl _))).mono ?_; rintro e w' ⟨rfl, rfl⟩) | (refine ⟨trivial, ?_⟩))
      refine ⟨(Beyond.refl _ _).setCell (p := ⟨w.heap.size + 1 + 1, 0, none⟩) (by have := HZ.out; show w.heap.size + 1 + 1 < _; omega) _, ⟨⟨HBW.out.setCell (p := ⟨w.heap.size + 1 + 1, 0, none⟩) (by show _ ≤ w.heap.size + 1 + 1; omega) _, HB1.out.other (a := ⟨w.heap.size + 1 + 1, 0, none⟩) (by show w.heap.size + 1 + 1 ≠ _; omega) _, HB2.out.other (a := ⟨w.heap.size + 1 + 1, 0, none⟩) (by show w.heap.size + 1 + 1 ≠ _; omega) _, ?_⟩, HNX.out HBD.out⟩⟩
      rw [HPS.out]
      exact HB3.out.st 0 _
    · have g1 : ((R : Int) != 65533) = false := by rw [k1]; rfl
      have g2 : ((R : Int) == 65533) = true := by rw [k1]; rfl
      rw [k3] at chp
      have HBD := Lib.hid (show badU R N = true from k4)
      clear k1 k2 k3 k4
      gi_wp2_with (first | (refine ⟨trivial, ?_⟩; gi_at_call 39; refine (CallsIn.inRound _ (callsIn_wide.2 (crl _))).mono ?_; rintro e w' ⟨rfl, rfl⟩) | (refine ⟨trivial, ?_⟩; gi_at_call 38; refine (CallsIn.inRound _ (callsIn_wide.2 (chp _))).mono ?_; rintro e w' ⟨rfl, rfl⟩) | (refine ⟨trivial, ?_⟩; gi_at_call 40; refine (CallsIn.inRound _ (callsIn_wide.2 (cct _))).mono ?_; rintro e w' ⟨rfl, rfl⟩) | (refine ⟨trivial, ?_⟩; gi_at_call 41; refine (CallsIn.inRound _ (callsIn_wide.2 (cbl _))).mono ?_; rintro e w' ⟨rfl, rfl⟩) | (refine ⟨trivial, ?_⟩))
      obtain ⟨u, hu1, hu2, hu3⟩ := HFS.out HBD.out
      refine ⟨(Beyond.refl _ _).setCell (p := ⟨w.heap.size + 1, 0, none⟩) (by have := HZ.out; show w.heap.size + 1 < _; omega) _, HBW.out.setCell (p := ⟨w.heap.size + 1, 0, none⟩) (by show _ ≤ w.heap.size + 1; omega) _, u, hu1, ?_⟩
      rw [hu2, hu3]
      exact HB2.out.st 0 _
  case done =>
    intro W hi hD
    obtain ⟨⟨hb, b1, b2, b3⟩, hprev⟩ := hi
    have HC := Lib.hid (show checkV s = .nilIface by
      unfold checkV
      rw [if_neg (by omega), show checkL s = none from find_none (fun j hj => hprev j hj hj)])
    have HBW := Lib.hid hb
    have HB2 := Lib.hid b2
    clear hb b1 b3 hprev h0 hall
    obtain ⟨c1, c2⟩ : W.cell? ⟨w.heap.size + 1, 0, none⟩ = some .nilIface ∧ W.frozen? ⟨w.heap.size + 1, 0, none⟩ = false := ⟨b2.cell 0 _ rfl, b2.free 0⟩
    clear b2
    gi_wp2
    have hne : V.heap.size ≠ w.heap.size + 1 := by have := HZ.out; omega
    have hK' : (W.setCell ⟨w.heap.size + 1, 0, none⟩ .nilIface).heap[V.heap.size]? = some (.deferred (some [])) := (Below.heap_setCell W ⟨w.heap.size + 1, 0, none⟩ .nilIface _ hne).trans hD
    refine ⟨by simp, .inl ⟨_, _, rfl, run_takeDeferred hK', ?_⟩⟩
    have hc5 := (((HB2.out.st 0 .nilIface).same (World.putObj_heap_other (o := .deferred none) hne.symm)).cell 0 _ rfl : ((W.setCell ⟨w.heap.size + 1, 0, none⟩ .nilIface).putObj V.heap.size (.deferred none)).cell? ⟨w.heap.size + 1, 0, none⟩ = some .nilIface)
    refine ⟨.nilIface, ?_, by rw [HC.out], (HBW.out.setCell (p := ⟨w.heap.size + 1, 0, none⟩) (by show _ ≤ w.heap.size + 1; omega) _).trans (below_put _ (by have := HZ.out; omega))⟩
    simp [results, Tryz.f19, go_sem, hc5]
  case stop =>
    intro W hx hD
    obtain ⟨hb, u, hu, b2⟩ := hx
    have HC := Lib.hid (show checkV s = faultV 6 u.line u.col by
      unfold checkV
      rw [if_neg (by omega), hu])
    clear hu h0 hall
    have hne : V.heap.size ≠ w.heap.size + 1 := by have := HZ.out; omega
    gi_wp2
    refine ⟨by simp, .inl ⟨_, _, rfl, run_takeDeferred hD, ?_⟩⟩
    have hc5 := ((b2.same (World.putObj_heap_other (o := .deferred none) hne.symm)).cell 0 _ rfl : (W.putObj V.heap.size (.deferred none)).cell? ⟨w.heap.size + 1, 0, none⟩ = some (faultV 6 u.line u.col))
    refine ⟨faultV 6 u.line u.col, ?_, by rw [HC.out], hb.trans (below_put _ (by have := HZ.out; omega))⟩
    simp [results, Tryz.f19, go_sem, hc5]

set_option maxRecDepth 100000 in
set_option maxHeartbeats 2000000 in
theorem check_any (s : List UInt8) (hs : s.length ≤ 9223372036854775807) (w : World) :
    Calls Tryz.prog 19 #[.string ⟨s.toArray⟩] w fun e w' => e = .returned (checkV s) ∧ Below w.heap.size w w' := by
  by_cases h : (1048576 : Int) < s.length
  · have HC := Lib.hid (show checkV s = errV 5 by unfold checkV; rw [if_pos (by omega)])
    go_enter Tryz.func19, Tryz.ntmps19
    go_wp2_with fail
    exact bodyPost_ret (v := errV 5) (by simp [results, Tryz.results19, go_sem, errV]) rfl ⟨by rw [HC.out], ((Below.refl _ _).alloc (Nat.le_refl _) _).alloc (by simp) _⟩
  · exact check_short s (by omega) w
end Go.Proofs.YtmifjfohanegiaaGreatDoor
