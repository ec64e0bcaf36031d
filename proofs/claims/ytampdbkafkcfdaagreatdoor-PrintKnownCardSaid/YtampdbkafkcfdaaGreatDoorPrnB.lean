/-
  Layer 7's small functions: word, small, order, role; the reference's Word, digits, whole, size, order, role: contracts.
-/
import Derived.Test.YtampdbkafkcfdaaGreatDoorLexB
import Derived.Test.YtampdbkafkcfdaaGreatDoorLexM
import Derived.Test.YtampdbkafkcfdaaGreatDoorBaseC
import Derived.Test.YtampdbkafkcfdaaGreatDoorTxtF

namespace Go.Proofs.YtampdbkafkcfdaaGreatDoor
set_option linter.unusedVariables false
open Go.RowKit Go.Shelf

/-- the byte at a place; 0 beyond -/
def atB (s : List UInt8) (i : Nat) : UInt8 := (s[i]?).getD 0
theorem atB_lt {s : List UInt8} {i : Nat} (h : i < s.length) : atB s i = s[i] := by unfold atB; rw [List.getElem?_eq_getElem h]; rfl
theorem atB_end {s : List UInt8} {i : Nat} (h : ¬ i < s.length) : atB s i = 0 := by unfold atB; rw [List.getElem?_eq_none (by omega)]; rfl
theorem atB_drop (s : List UInt8) (i j : Nat) : atB (s.drop i) j = atB s (i + j) := by unfold atB; rw [List.getElem?_drop]
theorem get_atB (s : List UInt8) (i : Nat) (h : i < s.length) : (⟨s.toArray⟩ : ByteArray)[i]'h = atB s i := by rw [atB_lt h]; rfl
theorem num3_at (s : List UInt8) (n : Nat) : num3T s n = if stopN (atB s n) = true then 0 else n := by
  unfold num3T atB
  cases s[n]? with
  | none => rfl
  | some c => rfl
theorem num2_at (s : List UInt8) (n : Nat) : num2T s n = if isEe (atB s n) = true then (if tw (s.drop (n + 1 + sgnN (s.drop (n + 1)))) = [] then 0 else num3T s (n + 1 + sgnN (s.drop (n + 1)) + (tw (s.drop (n + 1 + sgnN (s.drop (n + 1))))).length)) else num3T s n := by
  unfold num2T atB
  cases s[n]? with
  | none => rfl
  | some c => rfl
theorem num1_at (s : List UInt8) (n : Nat) : num1T s n = if atB s n = 46 then (if tw (s.drop (n + 1)) = [] then 0 else num2T s (n + (1 + (tw (s.drop (n + 1))).length))) else num2T s n := by
  unfold num1T atB
  cases s[n]? with
  | none => rfl
  | some c => rfl
theorem sgn_at (s : List UInt8) (i : Nat) : sgnN (s.drop i) = if isSg (atB s i) = true then 1 else 0 := by
  by_cases h : i < s.length
  · rw [List.drop_eq_getElem_cons h, atB_lt h]; rfl
  · rw [List.drop_eq_nil_of_le (by omega), atB_end h]; rfl
/-- behind the digits stands none -/
theorem tw_max (s : List UInt8) (i : Nat) : dgU (atB s (i + (tw (s.drop i)).length)).toNat = false := by
  rw [← atB_drop]
  generalize s.drop i = l
  induction l with
  | nil => rfl
  | cons c t ih =>
    cases h : isDg c
    · rw [tw_stop h]
      exact h
    · rw [tw_cons h]
      exact ih
/-- where the number ends that begins at a place -/
def numA (s : List UInt8) (i : Nat) : Nat := num1T s (i + sgnN (s.drop i) + (tw (s.drop (i + sgnN (s.drop i)))).length)
def shN (i n : Nat) : Nat := if n = 0 then 0 else i + n
theorem num3_sh (s : List UInt8) (i n : Nat) (hn : 1 ≤ n) : num3T s (i + n) = shN i (num3T (s.drop i) n) := by
  rw [num3_at, num3_at, atB_drop]
  split
  · rfl
  · unfold shN; rw [if_neg (by omega)]
theorem num2_sh (s : List UInt8) (i n : Nat) (hn : 1 ≤ n) : num2T s (i + n) = shN i (num2T (s.drop i) n) := by
  rw [num2_at, num2_at, atB_drop]
  simp only [List.drop_drop, Nat.add_assoc]
  split
  · split
    · rfl
    · exact num3_sh s i _ (by omega)
  · exact num3_sh s i n hn
theorem num1_sh (s : List UInt8) (i n : Nat) (hn : 1 ≤ n) : num1T s (i + n) = shN i (num1T (s.drop i) n) := by
  rw [num1_at, num1_at, atB_drop]
  simp only [List.drop_drop, Nat.add_assoc]
  split
  · split
    · rfl
    · exact num2_sh s i _ (by omega)
  · exact num2_sh s i n hn
theorem numA_sh (s : List UInt8) (i : Nat) (h : tw (s.drop (i + sgnN (s.drop i))) ≠ []) : numA s i = shN i (numN (s.drop i)) := by
  have hpos : 0 < (tw (s.drop (i + sgnN (s.drop i)))).length := List.length_pos_iff.2 h
  unfold numA numN
  rw [Nat.add_assoc, num1_sh s i _ (by omega), List.drop_drop]
theorem isSg_iff (c : UInt8) : isSg c = true ↔ c = 43 ∨ c = 45 := by unfold isSg; simp
theorem isEe_iff (c : UInt8) : isEe c = true ↔ c = 101 ∨ c = 69 := by unfold isEe; simp
theorem u8_eqB (c : UInt8) (m : Nat) (hm : m < 256) : ((c.toNat : Int) == (m : Int)) = decide (c = UInt8.ofNat m) := by
  rw [Bool.eq_iff_iff, beq_iff_eq, decide_eq_true_eq]
  constructor
  · intro h; exact UInt8.toNat.inj (by rw [UInt8.toNat_ofNat_of_lt' (by simpa using hm)]; omega)
  · intro h; rw [h, UInt8.toNat_ofNat_of_lt' (by simpa using hm)]
end Go.Proofs.YtampdbkafkcfdaaGreatDoor

namespace Go.Proofs.YtampdbkafkcfdaaGreatDoor
set_option linter.unusedVariables false
open Go.RowKit Go.Shelf

theorem cletter_any (r : Nat) (w : World) :
    Calls Tryz.prog 75 #[.int .i32 (r : Nat)] w fun e w' => e = .returned (.bool (ltU r)) ∧ w' = w := by
  have HI := Lib.hid (ltU_iff r)
  generalize ltU r = b at *
  have fin : ∀ v : Bool, (v = true ↔ (97 ≤ r ∧ r ≤ 122) ∨ (65 ≤ r ∧ r ≤ 90) ∨ r = 95) → b = v := fun v hv => by rw [Bool.eq_iff_iff, HI.out, hv]
  by_cases h1 : (97 : Int) ≤ r
  · by_cases h2 : (r : Int) ≤ 122
    · have HB := Lib.hid (fin true (by simp; omega))
      clear HI fin
      go_enter Tryz.func75, Tryz.ntmps75
      go_wp2_with fail
      go_ret
      exact ⟨by rw [HB.out] <;> rfl, rfl⟩
    · have HB := Lib.hid (fin false (by simp; omega))
      have h3 : (65 : Int) ≤ r := by omega
      have h4 : ¬ (r : Int) ≤ 90 := by omega
      have h5 : ((r : Int) == 95) = false := by rw [beq_eq_false_iff_ne]; omega
      clear HI fin
      go_enter Tryz.func75, Tryz.ntmps75
      go_wp2_with fail
      go_ret
      exact ⟨by rw [HB.out] <;> rfl, rfl⟩
  · by_cases h3 : (65 : Int) ≤ r
    · by_cases h4 : (r : Int) ≤ 90
      · have HB := Lib.hid (fin true (by simp; omega))
        clear HI fin
        go_enter Tryz.func75, Tryz.ntmps75
        go_wp2_with fail
        go_ret
        exact ⟨by rw [HB.out] <;> rfl, rfl⟩
      · by_cases h6 : r = 95
        · have HB := Lib.hid (fin true (by simp; omega))
          have h5 : ((r : Int) == 95) = true := by rw [h6]; rfl
          clear HI fin h6
          go_enter Tryz.func75, Tryz.ntmps75
          go_wp2_with fail
          go_ret
          exact ⟨by rw [HB.out] <;> rfl, rfl⟩
        · have HB := Lib.hid (fin false (by simp; omega))
          have h5 : ((r : Int) == 95) = false := by rw [beq_eq_false_iff_ne]; omega
          clear HI fin h6
          go_enter Tryz.func75, Tryz.ntmps75
          go_wp2_with fail
          go_ret
          exact ⟨by rw [HB.out] <;> rfl, rfl⟩
    · have HB := Lib.hid (fin false (by simp; omega))
      have h5 : ((r : Int) == 95) = false := by rw [beq_eq_false_iff_ne]; omega
      clear HI fin
      go_enter Tryz.func75, Tryz.ntmps75
      go_wp2_with fail
      go_ret
      exact ⟨by rw [HB.out] <;> rfl, rfl⟩

/-- may byte k of a name be this one? -/
def okN (k : Nat) (c : UInt8) : Bool := ltU c.toNat || (k != 0 && dgU c.toNat)
def allN : Nat → List UInt8 → Bool
  | _, [] => true
  | k, c :: t => okN k c && allN (k + 1) t
def nameB (s : List UInt8) : Bool := allN 0 s && (decide (0 < s.length) && decide (s.length ≤ 64))

set_option maxRecDepth 100000 in
set_option maxHeartbeats 4000000 in
theorem cname_any (s : List UInt8) (hs : s.length ≤ 9223372036854775807) (w : World) :
    Calls Tryz.prog 56 #[.string ⟨s.toArray⟩] w fun e w' => e = .returned (.bool (nameB s)) ∧ Below w.heap.size w w' := by
  obtain ⟨T, hT⟩ : ∃ T, T = nameB s := ⟨_, rfl⟩
  rw [← hT]
  have hb0 : Below w.heap.size w (w.iter ⟨s.toArray⟩ 0) := (Below.refl _ _).alloc (Nat.le_refl _) _
  have hi0 := World.iter_heap w ⟨s.toArray⟩ 0
  obtain ⟨Z, hZ⟩ : ∃ Z, Z = (decide (0 < s.length) && decide (s.length ≤ 64)) := ⟨_, rfl⟩
  have HT := Lib.hid (show T = (allN 0 s && Z) by rw [hT, hZ]; rfl)
  have HZ := Lib.hid hZ
  clear hT hZ
  go_enter Tryz.func56, Tryz.ntmps56
  go_wp2_with fail
  generalize w.iter ⟨s.toArray⟩ 0 = V at *
  go_loopw [] (fun wr => ∃ k : Nat, k ≤ s.length ∧ T = (allN k (s.drop k) && Z) ∧ wr.heap[w.heap.size]? = some (.stringIter ⟨s.toArray⟩ k) ∧ Below w.heap.size w wr) (fun wr => s.length - wr.iterPos w.heap.size)
  case atStart => exact ⟨0, Nat.zero_le _, by rw [HT.out]; simp, hi0, hb0⟩
  case round =>
    clear hi0 hb0 HT
    obtain ⟨k, hk, hTk, hit, hbw⟩ := hrel
    have hmz : wr.iterPos w.heap.size = k := iterPos_of hit
    by_cases hlt : k < s.length
    · have hps : k < (⟨s.toArray⟩ : ByteArray).size := hlt
      have hnx : ∀ ty, (Instr.next (.pointer (some ⟨w.heap.size, 0, none⟩)) true ty).run Tryz.prog wr = _ := fun ty => Lib.run_next_any_at wr w.heap.size ⟨s.toArray⟩ k ty hit hps
      rw [dec_drop] at hnx
      have hd := List.drop_eq_getElem_cons hlt
      rw [hd] at hTk hnx
      generalize s[k] = c at *
      have hT2 : T = (okN k c && allN (k + 1) (s.drop (k + 1)) && Z) := hTk
      have hlow : (ltU (decL (c :: s.drop (k + 1))).1 || dgU (decL (c :: s.drop (k + 1))).1) = true → decL (c :: s.drop (k + 1)) = (c.toNat, 1) := fun h => by
        rw [Bool.or_eq_true] at h
        exact (dec_low c _ (h.elim (fun h => ltU_low h) (fun h => dgU_low h))).1
      have hhi : (ltU (decL (c :: s.drop (k + 1))).1 || dgU (decL (c :: s.drop (k + 1))).1) = false → (ltU c.toNat || dgU c.toNat) = false := fun h => by
        rw [Bool.eq_false_iff]
        intro h2
        have h3 : c.toNat < 128 := by
          rw [Bool.or_eq_true] at h2
          exact h2.elim (fun h => ltU_low h) (fun h => dgU_low h)
        rw [dec_ascii c _ h3] at h
        rw [h] at h2; cases h2
      have hbw2 := fun n => Lib.below_iterAt hbw (k := w.heap.size) (Nat.le_refl _) ⟨s.toArray⟩ (k + n)
      have cl := cletter_any (decL (c :: s.drop (k + 1))).1
      cases h1 : ltU (decL (c :: s.drop (k + 1))).1
      · cases h2 : dgU (decL (c :: s.drop (k + 1))).1
        · have h3 := hhi (by rw [h1, h2]; rfl)
          rw [Bool.or_eq_false_iff] at h3
          have HTK := Lib.hid (show T = false by rw [hT2]; unfold okN; rw [h3.1, h3.2]; simp)
          rw [h1] at cl
          have hnd := fun h => (dgU_iff (decL (c :: s.drop (k + 1))).1).2 h
          rw [h2] at hnd
          generalize (decL (c :: s.drop (k + 1))).1 = R at *
          generalize (decL (c :: s.drop (k + 1))).2 = N at *
          have HBW := Lib.hid (hbw2 N)
          generalize wr.iterAt w.heap.size ⟨s.toArray⟩ (k + N) = wv at *
          have hnd2 : ¬ (48 ≤ R ∧ R ≤ 57) := fun h => by cases hnd h
          clear hnd hlow hhi h1 h2 h3 hT2 hTk hd hmz hps hbw2
          by_cases h0 : k = 0
          · subst h0
            clear hnd2
            go_wp2_with fail
            with_reducible refine (cl _).mono ?_
            rintro e w1 ⟨rfl, rfl⟩
            go_wp2_with fail
            go_ret
            exact ⟨by rw [HTK.out] <;> rfl, HBW.out⟩
          · have hk0 : ((k : Int) == 0) = false := by rw [beq_eq_false_iff_ne]; omega
            by_cases h4 : (R : Int) < 48
            · clear hnd2 h0
              go_wp2_with fail
              with_reducible refine (cl _).mono ?_
              rintro e w1 ⟨rfl, rfl⟩
              go_wp2_with fail
              go_ret
              exact ⟨by rw [HTK.out] <;> rfl, HBW.out⟩
            · have h5 : (57 : Int) < R := by omega
              clear hnd2 h0
              go_wp2_with fail
              with_reducible refine (cl _).mono ?_
              rintro e w1 ⟨rfl, rfl⟩
              go_wp2_with fail
              go_ret
              exact ⟨by rw [HTK.out] <;> rfl, HBW.out⟩
        · have hde := hlow (by rw [h1, h2]; rfl)
          rw [hde] at hnx h1 h2 cl
          rw [h1] at cl
          have hdg := (dgU_iff c.toNat).1 h2
          have hlc : ltU c.toNat = false := h1
          have hdc : dgU c.toNat = true := h2
          have hit2 := Lib.iterAt_heap wr w.heap.size ⟨s.toArray⟩ k (k + 1) hit
          have HBW := Lib.hid (hbw2 1)
          simp only at hnx
          generalize wr.iterAt w.heap.size ⟨s.toArray⟩ (k + 1) = wv at *
          have HM := Lib.hid hmz
          by_cases h0 : k = 0
          · have HTK := Lib.hid (show T = false by rw [hT2, h0]; unfold okN; rw [hlc, hdc]; rfl)
            subst h0
            clear hlow hhi h1 h2 hT2 hTk hd hmz hps hbw2 hdg hlc hdc hde
            go_wp2_with fail
            with_reducible refine (cl _).mono ?_
            rintro e w1 ⟨rfl, rfl⟩
            go_wp2_with fail
            go_ret
            exact ⟨by rw [HTK.out] <;> rfl, HBW.out⟩
          · have HTK := Lib.hid (show T = (allN (k + 1) (s.drop (k + 1)) && Z) by
              rw [hT2]
              have : okN k c = true := by unfold okN; rw [hlc, hdc]; simp [h0]
              rw [this, Bool.true_and])
            have hk0 : ((k : Int) == 0) = false := by rw [beq_eq_false_iff_ne]; omega
            have h4 : ¬ ((c.toNat : Int) < 48) := by omega
            have h5 : ¬ ((57 : Int) < c.toNat) := by omega
            clear hlow hhi h1 h2 hT2 hTk hd hmz hps hbw2 hdg hlc hdc hde h0
            go_wp2_with fail
            with_reducible refine (cl _).mono ?_
            rintro e w1 ⟨rfl, rfl⟩
            go_wp2_with fail
            go_roundw
            case rel => exact ⟨k + 1, by omega, HTK.out, hit2, HBW.out⟩
            case measure => rw [iterPos_of hit2, HM.out]; omega
      · have hde := hlow (by rw [h1]; rfl)
        rw [hde] at hnx h1 cl
        rw [h1] at cl
        have hlc : ltU c.toNat = true := h1
        have hit2 := Lib.iterAt_heap wr w.heap.size ⟨s.toArray⟩ k (k + 1) hit
        have HBW := Lib.hid (hbw2 1)
        simp only at hnx
        generalize wr.iterAt w.heap.size ⟨s.toArray⟩ (k + 1) = wv at *
        have HM := Lib.hid hmz
        have HTK := Lib.hid (show T = (allN (k + 1) (s.drop (k + 1)) && Z) by
          rw [hT2]
          have : okN k c = true := by unfold okN; rw [hlc]; rfl
          rw [this, Bool.true_and])
        clear hlow hhi h1 hT2 hTk hd hmz hps hbw2 hlc hde
        go_wp2_with fail
        with_reducible refine (cl _).mono ?_
        rintro e w1 ⟨rfl, rfl⟩
        go_wp2_with fail
        go_roundw
        case rel => exact ⟨k + 1, by omega, HTK.out, hit2, HBW.out⟩
        case measure => rw [iterPos_of hit2, HM.out]; omega
    · have HTK := Lib.hid (show T = Z by rw [hTk, show k = s.length by omega, List.drop_length]; rfl)
      have hps : ¬ k < (⟨s.toArray⟩ : ByteArray).size := hlt
      have hnx : ∀ ty, (Instr.next (.pointer (some ⟨w.heap.size, 0, none⟩)) true ty).run Tryz.prog wr = _ := fun ty => Lib.run_next_end_at wr w.heap.size ⟨s.toArray⟩ k ty hit hps
      have HBW := Lib.hid hbw
      clear hTk hps hmz hbw hit
      by_cases h0 : s = []
      · have hT0 := Lib.hid (show T = false by rw [HTK.out, HZ.out, h0]; rfl)
        subst h0
        go_wp2_with fail
        go_ret
        exact ⟨by rw [hT0.out] <;> rfl, HBW.out⟩
      · have hpos : 0 < s.length := List.length_pos_iff.2 h0
        have he : s.isEmpty = false := by cases s with
          | nil => exact absurd rfl h0
          | cons a b => rfl
        by_cases h64 : (s.length : Int) ≤ 64
        · have hT0 := Lib.hid (show T = true by rw [HTK.out, HZ.out, decide_eq_true hpos, decide_eq_true (by omega)]; rfl)
          clear h0 hpos
          go_wp2_with fail
          go_ret
          exact ⟨by rw [hT0.out] <;> rfl, HBW.out⟩
        · have hT0 := Lib.hid (show T = false by rw [HTK.out, HZ.out, decide_eq_false (by omega : ¬ s.length ≤ 64), Bool.and_false])
          clear h0 hpos
          go_wp2_with fail
          go_ret
          exact ⟨by rw [hT0.out] <;> rfl, HBW.out⟩
end Go.Proofs.YtampdbkafkcfdaaGreatDoor

namespace Go.Proofs.YtampdbkafkcfdaaGreatDoor
set_option linter.unusedVariables false
open Go.RowKit Go.Shelf

def sizB (n : Int) : Bool := decide (0 ≤ n ∧ n < 2147483648)
theorem small_any (n : Int) (hn : -9223372036854775808 ≤ n ∧ n ≤ 9223372036854775807) (w : World) :
    Calls Tryz.prog 33 #[.int .i64 n] w fun e w' => e = .returned (.bool (sizB n)) ∧ w' = w := by
  by_cases h1 : 0 ≤ n
  · by_cases h2 : n < 2147483648
    · have HD := Lib.hid (show sizB n = true from decide_eq_true ⟨h1, h2⟩)
      go_enter Tryz.func33, Tryz.ntmps33
      go_wp2_with fail
      go_ret
      exact ⟨by rw [HD.out] <;> rfl, rfl⟩
    · have HD := Lib.hid (show sizB n = false from decide_eq_false (fun h => h2 h.2))
      go_enter Tryz.func33, Tryz.ntmps33
      go_wp2_with fail
      go_ret
      exact ⟨by rw [HD.out] <;> rfl, rfl⟩
  · have HD := Lib.hid (show sizB n = false from decide_eq_false (fun h => h1 h.1))
    go_enter Tryz.func33, Tryz.ntmps33
    go_wp2_with fail
    go_ret
    exact ⟨by rw [HD.out] <;> rfl, rfl⟩

/-- the words that are kept for the lines' heads -/
def keyL : List (List UInt8) := [[86, 69, 82, 83, 73, 79, 78], [66, 85, 95], [66, 79, 95], [83, 71, 95], [86, 65, 76, 95], [67, 77, 95]]
def wordB (s : List UInt8) : Bool := nameB s && !decide (s ∈ keyL)

set_option maxHeartbeats 1000000 in
theorem pword_any (s : List UInt8) (hs : s.length ≤ 9223372036854775807) (w : World) :
    Calls Tryz.prog 32 #[.string ⟨s.toArray⟩] w fun e w' => e = .returned (.bool (wordB s)) ∧ Below w.heap.size w w' := by
  have c := cname_any s hs w
  by_cases hk : s ∈ keyL
  · have HW := Lib.hid (show wordB s = false by unfold wordB; rw [decide_eq_true hk]; simp)
    clear c
    simp only [keyL, List.mem_cons, List.not_mem_nil, or_false] at hk
    rcases hk with rfl | rfl | rfl | rfl | rfl | rfl <;>
    · go_enter Tryz.func32, Tryz.ntmps32
      go_wp2_with fail
      go_ret
      exact ⟨by rw [HW.out] <;> rfl, Below.refl _ _⟩
  · have HW := Lib.hid (show wordB s = nameB s by unfold wordB; rw [decide_eq_false hk]; simp)
    have hne : ∀ t ∈ keyL, (s == t) = false := by
      intro t ht
      rw [beq_eq_false_iff_ne]
      intro e
      exact hk (e ▸ ht)
    have h1 := hne [86, 69, 82, 83, 73, 79, 78] (by decide)
    have h2 := hne [66, 85, 95] (by decide)
    have h3 := hne [66, 79, 95] (by decide)
    have h4 := hne [83, 71, 95] (by decide)
    have h5 := hne [86, 65, 76, 95] (by decide)
    have h6 := hne [67, 77, 95] (by decide)
    clear hne
    generalize nameB s = T at *
    go_enter Tryz.func32, Tryz.ntmps32
    go_wp2_with fail
    with_reducible refine c.mono ?_
    rintro e w1 ⟨rfl, hb⟩
    go_wp2_with fail
    go_ret
    exact ⟨by rw [HW.out] <;> rfl, hb⟩
end Go.Proofs.YtampdbkafkcfdaaGreatDoor
