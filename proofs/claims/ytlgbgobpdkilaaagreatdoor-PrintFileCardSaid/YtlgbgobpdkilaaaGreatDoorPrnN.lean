/-
  Layer 7's reference: Signal: contract.
-/
import Derived.Test.YtlgbgobpdkilaaaGreatDoorPrnM
import Derived.Test.YtlgbgobpdkilaaaGreatDoorAppB
import Derived.Test.YtlgbgobpdkilaaaGreatDoorRlxI

namespace Go.Proofs.YtlgbgobpdkilaaaGreatDoor
set_option linter.unusedVariables false
open Go.RowKit Go.Shelf

def rsigV (d : SigD) (rs : List (List UInt8)) : Value := .tuple #[.string ⟨(if sigB d rs then sigT d rs else []).toArray⟩, .bool (sigB d rs)]

theorem joinTail_app (s : List UInt8) (l r : List (List UInt8)) : Lib.joinTail s (l ++ r) = Lib.joinTail s l ++ Lib.joinTail s r := by
  unfold Lib.joinTail
  rw [List.map_append, List.flatten_append]
theorem join_snoc (l : List (List UInt8)) (x s : List UInt8) (h : l ≠ []) : Lib.join (l ++ [x]) s = (Lib.join l s ++ s) ++ x := by
  cases l with
  | nil => exact absurd rfl h
  | cons y r =>
    rw [List.cons_append, Lib.join_cons, Lib.join_cons, joinTail_app]
    simp [Lib.joinTail]

/-- the first region's answer -/
def rs1B (d : SigD) : Bool := wordB d.name && (rolB d.role d.branch && (sizB d.start && sizB d.size))
theorem sigB_split (d : SigD) (rs : List (List UInt8)) : sigB d rs = (rs1B d && (fracB d.sn d.sd && (fracB d.on d.od && (fracB d.mn d.md && (fracB d.xn d.xd && ((mayN d.unit == 0) && (!rs.isEmpty && rs.all wordB))))))) := by
  unfold sigB rs1B allF
  generalize rolB d.role d.branch = a
  generalize wordB d.name = b
  generalize sizB d.start = c
  generalize sizB d.size = e
  generalize fracB d.sn d.sd = f
  generalize fracB d.on d.od = g
  generalize fracB d.mn d.md = h
  generalize fracB d.xn d.xd = i
  generalize (mayN d.unit == 0) = j
  cases a <;> cases b <;> cases c <;> cases e <;> cases f <;> cases g <;> cases h <;> cases i <;> cases j <;> simp

set_option maxRecDepth 100000 in
set_option maxHeartbeats 8000000 in
theorem rsignal_any (d : SigD) (hd : SigOK d) (rs : List (List UInt8)) (hto : rs.length ≤ 4000000) (hw : ∀ x ∈ rs, x.length ≤ 9223372036854775807) (n : Nat) (hn : n = rs.length) (a : Option Addr) (cap : Nat) (w : World) (hs : SlX w a cap rs) :
    Calls Tryz.prog 74 #[d.agg (.slice a n cap)] w fun e w' => e = .returned (rsigV d rs) ∧ Below w.heap.size w w' := by
  obtain ⟨V, hV⟩ : ∃ V, V = rsigV d rs := ⟨_, rfl⟩
  rw [← hV]
  have cR := fun W => rrole_any d (.slice a n cap) hd.br W
  have cO := fun W => rorder_any d (.slice a n cap) W
  have HCQ := Lib.hid (show (mayN d.unit == 0) = true → ∀ W, Calls Tryz.prog 69 #[.string ⟨d.unit.toArray⟩] W fun e w' => e = .returned (.string ⟨(quoL d.unit).toArray⟩) ∧ Below W.heap.size W w' from fun h W => rquote_any d.unit (by have := may7_len d.unit h; omega) W)
  have cM := fun W => may3_any d.unit (by have := hd.un; omega) W
  have cF0 := fun W => fraction7_any d.sn d.sd hd.s1 hd.s2 W
  have cF1 := fun W => fraction7_any d.on d.od hd.o1 hd.o2 W
  have cF2 := fun W => fraction7_any d.mn d.md hd.m1 hd.m2 W
  have cF3 := fun W => fraction7_any d.xn d.xd hd.x1 hd.x2 W
  have cW := fun W => rword_any d.name (by have := hd.nm; omega) W
  have cS1 := fun W => size7_any d.start hd.st W
  have cS2 := fun W => size7_any d.size hd.sz W
  have HVb := Lib.hid (show sigB d rs = false → V = .tuple #[.string ⟨#[]⟩, .bool false] from fun h => by rw [hV]; unfold rsigV; rw [h]; rfl)
  have HVg := Lib.hid (show sigB d rs = true → V = .tuple #[.string ⟨(sigT d rs).toArray⟩, .bool true] from fun h => by rw [hV]; unfold rsigV; rw [h]; rfl)
  have HSB := Lib.hid (sigB_split d rs)
  clear hV
  generalize sigB d rs = sB at *
  unfold frac7 at cF0 cF1 cF2 cF3
  rw [SigD.agg_eq] at *
  have e0 := SigD.cells_size d (.slice a n cap)
  have HC := Lib.hid (show d.cells (.slice a n cap) = #[.int .i64 d.line, .int .i64 d.col, .string ⟨d.name.toArray⟩, .int .i64 d.role, .int .u64 (d.branch : Nat), .int .i64 d.start, .int .i64 d.size, .bool d.moto, .bool d.signed, .int .i64 d.sn, .int .i64 d.sd, .int .i64 d.on, .int .i64 d.od, .int .i64 d.mn, .int .i64 d.md, .int .i64 d.xn, .int .i64 d.xd, .string ⟨d.unit.toArray⟩, .slice a n cap] from rfl)
  generalize d.cells (.slice a n cap) = C at *
  obtain ⟨zb, -, hbz⟩ := box1 w C 53
  have hu := Tryz.underlying53
  have HBZ := Lib.hid hbz
  have HS := Lib.hid hs
  clear hbz hs
  have g2 : ∀ h, C[2]'h = .string ⟨d.name.toArray⟩ := by rw [HC.out]; exact fun _ => rfl
  have g3 : ∀ h, C[3]'h = .int .i64 d.role := by rw [HC.out]; exact fun _ => rfl
  have g4 : ∀ h, C[4]'h = .int .u64 (d.branch : Nat) := by rw [HC.out]; exact fun _ => rfl
  have g5 : ∀ h, C[5]'h = .int .i64 d.start := by rw [HC.out]; exact fun _ => rfl
  have g6 : ∀ h, C[6]'h = .int .i64 d.size := by rw [HC.out]; exact fun _ => rfl
  have g9 : ∀ h, C[9]'h = .int .i64 d.sn := by rw [HC.out]; exact fun _ => rfl
  have g10 : ∀ h, C[10]'h = .int .i64 d.sd := by rw [HC.out]; exact fun _ => rfl
  have ZB := Lib.hid zb
  clear zb
  have hR1 : rs1B d = (wordB d.name && (rolB d.role d.branch && (sizB d.start && sizB d.size))) := rfl
  have HFL := Lib.hid (fun h => frac7_len _ _ hd.s1 hd.s2 h)
  have HFL1 := Lib.hid (fun h => frac7_len _ _ hd.o1 hd.o2 h)
  have HFL2 := Lib.hid (fun h => frac7_len _ _ hd.m1 hd.m2 h)
  have HFL3 := Lib.hid (fun h => frac7_len _ _ hd.x1 hd.x2 h)
  have HQL := Lib.hid (show (mayN d.unit == 0) = true → (quoL d.unit).length ≤ 10000 from fun h => quo7_len d.unit h)
  have HNL := Lib.hid (show wordB d.name = true → d.name.length ≤ 64 from fun h => by unfold wordB nameB at h; simp at h; omega)
  have hro := hd.ro
  have hbr := hd.br
  have HLR := Lib.hid (rol7_len d.role d.branch hd.br)
  have HLI1 := Lib.hid (itoa7_len d.start hd.st)
  have HLI2 := Lib.hid (itoa7_len d.size hd.sz)
  generalize fracB d.sn d.sd = b0 at *
  obtain ⟨t0, ht0⟩ : ∃ t, t = (if b0 = true then fracT d.sn d.sd else []) := ⟨_, rfl⟩
  rw [← ht0] at cF0
  have HT0 := Lib.hid ht0
  clear ht0
  generalize fracB d.on d.od = b1 at *
  obtain ⟨t1, ht1⟩ : ∃ t, t = (if b1 = true then fracT d.on d.od else []) := ⟨_, rfl⟩
  rw [← ht1] at cF1
  have HT1 := Lib.hid ht1
  clear ht1
  generalize fracB d.mn d.md = b2 at *
  obtain ⟨t2, ht2⟩ : ∃ t, t = (if b2 = true then fracT d.mn d.md else []) := ⟨_, rfl⟩
  rw [← ht2] at cF2
  have HT2 := Lib.hid ht2
  clear ht2
  generalize fracB d.xn d.xd = b3 at *
  obtain ⟨t3, ht3⟩ : ∃ t, t = (if b3 = true then fracT d.xn d.xd else []) := ⟨_, rfl⟩
  rw [← ht3] at cF3
  have HT3 := Lib.hid ht3
  clear ht3
  generalize mayN d.unit = mq at *
  generalize wordB d.name = wB at *
  generalize sizB d.start = s1B at *
  generalize sizB d.size = s2B at *
  generalize hrol : rolB d.role d.branch = rB at *
  have HR1 := Lib.hid hR1
  clear hR1
  generalize rs1B d = r1 at *
  go_enter Tryz.func74, Tryz.ntmps74
  go_wp2_with fail
  with_reducible refine (cW _).mono ?_
  rintro e w1 ⟨rfl, hw1⟩
  subst hw1
  cases wB
  · have HV := Lib.hid (HVb.out (by rw [HSB.out, HR1.out]; rfl))
    clear HVb HVg HSB
    go_wp2_with fail
    go_ret2
    exact ⟨congrArg Ending.returned HV.out.symm, HBZ.out⟩
  cases rB
  · have HV := Lib.hid (HVb.out (by rw [HSB.out, HR1.out]; rfl))
    clear HVb HVg HSB HR1
    have hro1 := hro.1
    by_cases h1 : d.role < 0
    · clear hrol
      go_wp2_with fail
      go_ret2
      exact ⟨congrArg Ending.returned HV.out.symm, HBZ.out⟩
    by_cases h2 : 2 < d.role
    · clear hrol
      go_wp2_with fail
      go_ret2
      exact ⟨congrArg Ending.returned HV.out.symm, HBZ.out⟩
    have h3 : (d.role == 2) = false := by
      rw [beq_eq_false_iff_ne]; intro h; rw [h] at hrol; simp [rolB] at hrol
    have h4 : ((d.branch : Int) == 0) = false := by
      rw [beq_eq_false_iff_ne]; intro h
      have h0 : d.branch = 0 := by omega
      have hne := beq_eq_false_iff_ne.1 h3
      rw [h0] at hrol
      have : d.role = 0 ∨ d.role = 1 := by omega
      rcases this with h | h <;> rw [h] at hrol <;> simp [rolB] at hrol
    clear hrol
    have h3' : (d.role != 2) = true := by simp [bne, h3]
    have h4' : ((d.branch : Int) != 0) = true := by simp [bne, h4]
    go_wp2_with fail
    go_ret2
    exact ⟨congrArg Ending.returned HV.out.symm, HBZ.out⟩
  have hra : ¬ d.role < 0 := by intro h; have i0 : d.role ≠ 0 := (by omega); have i1 : d.role ≠ 1 := (by omega); have i2 : d.role ≠ 2 := (by omega); simp [rolB, *] at hrol
  have hrb : ¬ 2 < d.role := by intro h; have i0 : d.role ≠ 0 := (by omega); have i1 : d.role ≠ 1 := (by omega); have i2 : d.role ≠ 2 := (by omega); simp [rolB, *] at hrol
  have hrc : ((d.branch : Int) != 0) = false ∨ (((d.branch : Int) != 0) = true ∧ (d.role != 2) = false) := by
    by_cases h : d.branch = 0
    · left; rw [h]; rfl
    · right
      refine ⟨by rw [bne_iff_ne]; omega, ?_⟩
      by_cases h2 : d.role = 2
      · rw [h2]; rfl
      · exfalso
        have e1 : (d.role == 2) = false := beq_eq_false_iff_ne.2 h2
        have e2 : (d.branch == 0) = false := beq_eq_false_iff_ne.2 h
        simp [rolB, e1, e2] at hrol
  clear hrol hro hbr
  rcases hrc with hrc | ⟨hrc, hrd⟩
  all_goals
    go_wp2_with fail
    with_reducible refine (cS1 _).mono ?_
    rintro e w1 ⟨rfl, hw1⟩
    subst hw1
    cases s1B
    · have HV := Lib.hid (HVb.out (by rw [HSB.out, HR1.out]; rfl))
      clear HVb HVg HSB
      go_wp2_with fail
      go_ret2
      exact ⟨congrArg Ending.returned HV.out.symm, HBZ.out⟩
    go_wp2_with fail
    with_reducible refine (cS2 _).mono ?_
    rintro e w1 ⟨rfl, hw1⟩
    subst hw1
    cases s2B
    · have HV := Lib.hid (HVb.out (by rw [HSB.out, HR1.out]; rfl))
      clear HVb HVg HSB
      go_wp2_with fail
      go_ret2
      exact ⟨congrArg Ending.returned HV.out.symm, HBZ.out⟩
    go_wp2_with fail
    with_reducible refine (cF0 _).mono ?_
    rintro e w1 ⟨rfl, hb⟩
    have B1 := ZB.out.keep hb (Nat.le_refl _)
    rw [HC.out] at B1
    have HB1 := Lib.hid (bstep HBZ.out hb (Nat.le_refl _))
    clear hb g2 g3 g4 g5 g6 g9 g10
    have f11 := B1.cell 11 _ rfl
    have f12 := B1.cell 12 _ rfl
    have HB1' := Lib.hid B1
    clear B1
    go_wp2_with fail
    with_reducible refine (cF1 _).mono ?_
    rintro e w2 ⟨rfl, hb⟩
    have B2 := HB1'.out.keep hb (Nat.le_refl _)
    have HB2 := Lib.hid (bstep HB1.out hb (Nat.le_refl _))
    clear hb f11 f12
    have f13 := B2.cell 13 _ rfl
    have f14 := B2.cell 14 _ rfl
    have HB2' := Lib.hid B2
    clear B2
    go_wp2_with fail
    with_reducible refine (cF2 _).mono ?_
    rintro e w3 ⟨rfl, hb⟩
    have B3 := HB2'.out.keep hb (Nat.le_refl _)
    have HB3 := Lib.hid (bstep HB2.out hb (Nat.le_refl _))
    clear hb f13 f14
    have f15 := B3.cell 15 _ rfl
    have f16 := B3.cell 16 _ rfl
    have HB3' := Lib.hid B3
    clear B3
    go_wp2_with fail
    with_reducible refine (cF3 _).mono ?_
    rintro e w4 ⟨rfl, hb⟩
    have B4 := HB3'.out.keep hb (Nat.le_refl _)
    have HB4 := Lib.hid (bstep HB3.out hb (Nat.le_refl _))
    clear hb f15 f16 HB1 HB2 HB3 HB1' HB2' HB3'
    have f17 := B4.cell 17 _ rfl
    have f18 := B4.cell 18 _ rfl
    have HB4' := Lib.hid B4
    clear B4 cF0 cF1 cF2 cF3 cS1 cS2 cW
    have hR1 : r1 = true := by rw [HR1.out]; rfl
    cases b0
    · have HV := Lib.hid (HVb.out (by rw [HSB.out, hR1]; rfl))
      clear HVb HVg HSB
      go_wp2_with fail
      go_ret2
      exact ⟨congrArg Ending.returned HV.out.symm, HB4.out⟩
    cases b1
    · have HV := Lib.hid (HVb.out (by rw [HSB.out, hR1]; rfl))
      clear HVb HVg HSB
      go_wp2_with fail
      go_ret2
      exact ⟨congrArg Ending.returned HV.out.symm, HB4.out⟩
    cases b2
    · have HV := Lib.hid (HVb.out (by rw [HSB.out, hR1]; rfl))
      clear HVb HVg HSB
      go_wp2_with fail
      go_ret2
      exact ⟨congrArg Ending.returned HV.out.symm, HB4.out⟩
    cases b3
    · have HV := Lib.hid (HVb.out (by rw [HSB.out, hR1]; rfl))
      clear HVb HVg HSB
      go_wp2_with fail
      go_ret2
      exact ⟨congrArg Ending.returned HV.out.symm, HB4.out⟩
    by_cases hmq : mq = 0
    rotate_left
    · have HV := Lib.hid (HVb.out (by rw [HSB.out, hR1, show (mq == 0) = false from beq_eq_false_iff_ne.2 hmq]; rfl))
      have hmq2 : ((mq : Int) != 0) = true := by rw [bne_iff_ne]; omega
      clear HVb HVg HSB hmq
      go_wp2_with fail
      with_reducible refine (cM _).mono ?_
      rintro e w5 ⟨rfl, hb⟩
      replace HB4 := Lib.hid (bstep HB4.out hb (Nat.le_refl _))
      clear hb f17 f18
      go_wp2_with fail
      go_ret2
      exact ⟨congrArg Ending.returned HV.out.symm, HB4.out⟩
    subst hmq
    go_wp2_with fail
    with_reducible refine (cM _).mono ?_
    rintro e w5 ⟨rfl, hb⟩
    replace HB4 := Lib.hid (bstep HB4.out hb (Nat.le_refl _))
    have B5 := HB4'.out.keep hb (Nat.le_refl _)
    clear hb f17 f18 HB4'
    have f18 := B5.cell 18 _ rfl
    have HB5' := Lib.hid B5
    clear B5
    by_cases hne : n = 0
    · have HV := Lib.hid (HVb.out (by rw [HSB.out, hR1, show rs.isEmpty = true by rw [List.isEmpty_iff]; exact List.length_eq_zero_iff.1 (by omega)]; rfl))
      clear HVb HVg HSB HS
      have hn0 : ((n : Int) == 0) = true := by rw [hne]; rfl
      clear hn hne
      go_wp2_with fail
      go_ret2
      exact ⟨congrArg Ending.returned HV.out.symm, HB4.out⟩
    have hn0 : ((n : Int) == 0) = false := by rw [beq_eq_false_iff_ne]; omega
    have HSB2 := Lib.hid (show sB = rs.all wordB by rw [HSB.out, hR1, show rs.isEmpty = false by rw [Bool.eq_false_iff]; intro h; rw [List.isEmpty_iff] at h; rw [h] at hn; exact hne hn]; rfl)
    clear HSB hne
    have cWs := fun (k : Nat) (h : k < rs.length) W => rword_any rs[k] (hw _ (List.getElem_mem h)) W
    clear hw
    subst hn
    go_wp2_with fail
    have hbot : Owns (w5.alloc (.cells #[] 5)) w5.heap.size 5 1 enByte (.slice (some ⟨w5.heap.size, 0, none⟩) 0 0) ([] : List UInt8) := Owns.lit w5 w5.heap.size enByte 1 enByte_len [] _ _ 0 rfl rfl (by decide) (Nat.le_refl _)
    go_loopw [12, 13] (fun v x wr => ∃ k : Nat, k ≤ rs.length ∧ x = .int .i64 (k : Nat) ∧ sB = ((rs.drop k).all wordB) ∧ (rs.take k).all wordB = true ∧ Below w5.heap.size w5 wr ∧ Owns wr w5.heap.size 5 1 enByte v (Lib.join (rs.take k) [44])) (fun _ x _ => rs.length - (intOf x).toNat)
    case atStart => exact ⟨0, Nat.zero_le _, rfl, by rw [HSB2.out]; rfl, rfl, (Below.refl _ _).alloc (Nat.le_refl _) _, by simpa [Lib.join_nil] using hbot⟩
    case round =>
      clear hbot
      obtain ⟨k, hk, rfl, hsk, htk, hbel, hown⟩ := hrel
      have B6 := HB5'.out.keep hbel (Nat.le_refl _)
      have f18 := B6.cell 18 _ rfl
      have HB6 := Lib.hid B6
      have HBW := Lib.hid (bstep HB4.out hbel (Nat.le_refl _))
      clear B6
      have hjl := join_words (rs.take k) [44] (by decide) htk
      rw [List.length_take] at hjl
      by_cases hlt : (k : Int) < rs.length
      · have hlt' : k < rs.length := by omega
        obtain ⟨b, o, rfl, hb, hc0⟩ := SlX.at (HS.out.keep HBW.out (Nat.le_refl _)) hlt'
        rw [List.drop_eq_getElem_cons hlt', List.all_cons] at hsk
        have cw := cWs k hlt' wr
        have htk2 : (rs.take (k + 1)).all wordB = ((rs.take k).all wordB && wordB rs[k]) := by rw [List.take_succ_eq_append_getElem hlt', List.all_append]; simp
        have hj0 : k = 0 → Lib.join (rs.take (k + 1)) [44] = rs[k] := fun h => by subst h; rw [List.take_succ_eq_append_getElem hlt']; exact Lib.join_one _ _
        have hj1 : k ≠ 0 → Lib.join (rs.take (k + 1)) [44] = (Lib.join (rs.take k) [44] ++ [44]) ++ rs[k] := fun h => by
          rw [List.take_succ_eq_append_getElem hlt']
          refine join_snoc _ _ _ fun e => ?_
          rw [List.take_eq_nil_iff] at e
          rcases e with e | e
          · exact h e
          · rw [e] at hlt'; simp at hlt'
        have hj2 : k = 0 → Lib.join (rs.take k) [44] = [] := fun h => by subst h; rfl
        have hwl : wordB rs[k] = true → rs[k].length ≤ 64 := fun h => by unfold wordB nameB at h; simp at h; omega
        generalize hx : rs[k] = x at *
        have HX := Lib.hid hx
        clear hx
        have HSK := Lib.hid hsk
        have HJ0 := Lib.hid hj0
        have HJ1 := Lib.hid hj1
        have HJ2 := Lib.hid hj2
        have HTK2 := Lib.hid htk2
        have HTK := Lib.hid htk
        have HWL := Lib.hid hwl
        clear hsk hj0 hj1 hj2 htk2 htk hwl hb
        generalize wordB x = xb at *
        go_wp2_with fail
        with_reducible refine cw.mono ?_
        rintro e w6 ⟨rfl, hw6⟩
        subst hw6
        clear cw
        cases xb
        · have HV := Lib.hid (HVb.out (by rw [HSK.out]; rfl))
          clear HVb HVg HSB2 HSK
          go_wp2_with fail
          go_ret2
          exact ⟨congrArg Ending.returned HV.out.symm, HBW.out⟩
        · have HSK2 := Lib.hid (show sB = (rs.drop (k + 1)).all wordB by rw [HSK.out]; rfl)
          have htk3 : (rs.take (k + 1)).all wordB = true := by rw [HTK2.out, HTK.out]; rfl
          have HT3 := Lib.hid htk3
          have hxl : x.length ≤ 64 := HWL.out rfl
          clear HSK HTK2 HTK htk3 HWL
          by_cases hk0 : k = 0
          · subst hk0
            have hj2 := HJ2.out rfl
            have HJ := Lib.hid (HJ0.out rfl)
            clear HJ0 HJ1 HJ2
            rw [hj2] at hown
            clear hj2 hjl HX
            rw [Nat.add_zero] at hc0
            go_wp2_with (at_builtin; go_loud (refine wpList_append_str [] x hown hbel (Nat.le_refl _) (by simp; omega) ?_))
            intro v' w7 hown1 hb1
            clear hown hbel hc0 f18
            go_wp2_with fail
            go_roundw
            case rel => exact ⟨1, by omega, by go_num, HSK2.out, HT3.out, hb1, by rw [HJ.out]; simpa using hown1⟩
            case measure => simp [intOf]; omega
          · have HJ := Lib.hid (HJ1.out hk0)
            clear HJ0 HJ1 HJ2
            have hkp : (0 : Int) < k := by omega
            generalize Lib.join (rs.take k) [44] = J at *
            clear hk0
            go_wp2_with (at_builtin; go_loud (refine wpList_append_elem bytes_ty J (44 : UInt8) hown hbel (Nat.le_refl _) (by omega) ?_ (hone := by simp [enByte, Value.oneCell'])))
            intro v' w7 hown1 hb1
            have B7 := HB5'.out.keep hb1 (Nat.le_refl _)
            have f18' := B7.cell 18 _ rfl
            obtain ⟨b', o', e', hb', hc1⟩ := SlX.at (HS.out.keep (bstep HB4.out hb1 (Nat.le_refl _)) (Nat.le_refl _)) hlt'
            cases e'
            clear hown hbel hc0 f18
            rw [HX.out] at hc1
            go_wp2_with (at_builtin; go_loud (refine wpList_append_str (J ++ [44]) x hown1 hb1 (Nat.le_refl _) (by simp; omega) ?_))
            intro v8 w8 hown2 hb2
            clear hown1 hb1 hc1 f18'
            go_wp2_with fail
            go_roundw
            case rel => exact ⟨k + 1, by omega, by go_num, HSK2.out, HT3.out, hb2, by rw [HJ.out]; simpa using hown2⟩
            case measure => simp [intOf]; omega
      · obtain rfl : k = rs.length := by omega
        have hsb : sB = true := by rw [hsk, List.drop_length]; rfl
        have HV := Lib.hid (HVg.out hsb)
        clear hsk hsb HVb HVg HSB2 htk
        rw [List.take_length] at hown
        have hjl : (Lib.join rs [44]).length ≤ 66 * rs.length := by rw [List.take_length, Nat.min_self] at hjl; exact hjl
        obtain ⟨hf0, hf1, hf2, hf3⟩ : (fracT d.sn d.sd).length ≤ 100 ∧ (fracT d.on d.od).length ≤ 100 ∧ (fracT d.mn d.md).length ≤ 100 ∧ (fracT d.xn d.xd).length ≤ 100 := ⟨HFL.out (by first | exact trivial | rfl), HFL1.out (by first | exact trivial | rfl), HFL2.out (by first | exact trivial | rfl), HFL3.out (by first | exact trivial | rfl)⟩
        obtain rfl : t0 = fracT d.sn d.sd := by rw [HT0.out]; simp
        obtain rfl : t1 = fracT d.on d.od := by rw [HT1.out]; simp
        obtain rfl : t2 = fracT d.mn d.md := by rw [HT2.out]; simp
        obtain rfl : t3 = fracT d.xn d.xd := by rw [HT3.out]; simp
        have hlq := HQL.out (by first | exact trivial | rfl)
        have hln := HNL.out (by first | exact trivial | rfl)
        have hli1 := HLI1.out
        have hli2 := HLI2.out
        have hlR := HLR.out
        have hlo : (ordL d.moto d.signed).length = 3 := rfl
        unfold sigT at HV
        have cI1 := fun x : Later wr => whole7_any d.start hd.st x.w
        have cI2 := fun x : Later wr => whole7_any d.size hd.sz x.w
        have cRx := fun x : Later wr => cR x.w
        have cOx := fun x : Later wr => cO x.w
        have cQx := fun x : Later wr => HCQ.out (by first | exact trivial | rfl) x.w
        have l2 := fun x : Later wr => Later.cell (HB6.out.cell 2 _ rfl) x
        have l5 := fun x : Later wr => Later.cell (HB6.out.cell 5 _ rfl) x
        have l6 := fun x : Later wr => Later.cell (HB6.out.cell 6 _ rfl) x
        have l17 := fun x : Later wr => Later.cell (HB6.out.cell 17 _ rfl) x
        have LB := Lib.hid (fun x : Later wr => (show Blk x.w w.heap.size C by rw [HC.out]; exact Later.blk HB6.out x))
        have hcv := fun x : Later wr => owns_stringP (P := Tryz.prog) Tryz.underlying95 Tryz.underlying5 Tryz.underlying9 (hown.keep x.below (Nat.le_refl _))
        obtain ⟨av, cv, rfl, -⟩ := hown.shape
        clear cM cR cO HCQ HQL HNL HLI1 HLI2 HLR HFL HFL1 HFL2 HFL3 HT0 HT1 HT2 HT3 hown HB5' HS
        generalize d.name = NM at *
        generalize rolL d.role d.branch = tR at *
        generalize Lib.itoa d.start = I1 at *
        generalize Lib.itoa d.size = I2 at *
        generalize ordL d.moto d.signed = O at *
        generalize fracT d.sn d.sd = F0 at *
        generalize fracT d.on d.od = F1 at *
        generalize fracT d.mn d.md = F2 at *
        generalize fracT d.xn d.xd = F3 at *
        generalize quoL d.unit = QU at *
        generalize Lib.join rs [44] = JT at *
        obtain ⟨S0, eS0, aS0, nS0, zS0⟩ := strCat [83, 71, 95, 32] NM (by (try simp); try omega) (by (try simp); try omega)
        have lS0 : S0.length ≤ 68 := by rw [zS0]; (try simp); try omega
        have ES0 := Lib.hid eS0
        clear eS0 zS0
        obtain ⟨S1, eS1, aS1, nS1, zS1⟩ := strCat S0 tR (by (try simp); try omega) (by (try simp); try omega)
        have lS1 : S1.length ≤ 90 := by rw [zS1]; (try simp); try omega
        have ES1 := Lib.hid eS1
        clear eS1 zS1
        obtain ⟨S2, eS2, aS2, nS2, zS2⟩ := strCat S1 [32, 58, 32] (by (try simp); try omega) (by (try simp); try omega)
        have lS2 : S2.length ≤ 93 := by rw [zS2]; (try simp); try omega
        have ES2 := Lib.hid eS2
        clear eS2 zS2
        obtain ⟨S3, eS3, aS3, nS3, zS3⟩ := strCat S2 I1 (by (try simp); try omega) (by (try simp); try omega)
        have lS3 : S3.length ≤ 114 := by rw [zS3]; (try simp); try omega
        have ES3 := Lib.hid eS3
        clear eS3 zS3
        obtain ⟨S4, eS4, aS4, nS4, zS4⟩ := strCat S3 [124] (by (try simp); try omega) (by (try simp); try omega)
        have lS4 : S4.length ≤ 115 := by rw [zS4]; (try simp); try omega
        have ES4 := Lib.hid eS4
        clear eS4 zS4
        obtain ⟨S5, eS5, aS5, nS5, zS5⟩ := strCat S4 I2 (by (try simp); try omega) (by (try simp); try omega)
        have lS5 : S5.length ≤ 136 := by rw [zS5]; (try simp); try omega
        have ES5 := Lib.hid eS5
        clear eS5 zS5
        obtain ⟨S6, eS6, aS6, nS6, zS6⟩ := strCat S5 O (by (try simp); try omega) (by (try simp); try omega)
        have lS6 : S6.length ≤ 139 := by rw [zS6]; (try simp); try omega
        have ES6 := Lib.hid eS6
        clear eS6 zS6
        obtain ⟨S7, eS7, aS7, nS7, zS7⟩ := strCat S6 [32, 40] (by (try simp); try omega) (by (try simp); try omega)
        have lS7 : S7.length ≤ 141 := by rw [zS7]; (try simp); try omega
        have ES7 := Lib.hid eS7
        clear eS7 zS7
        obtain ⟨S8, eS8, aS8, nS8, zS8⟩ := strCat S7 F0 (by (try simp); try omega) (by (try simp); try omega)
        have lS8 : S8.length ≤ 241 := by rw [zS8]; (try simp); try omega
        have ES8 := Lib.hid eS8
        clear eS8 zS8
        obtain ⟨S9, eS9, aS9, nS9, zS9⟩ := strCat S8 [44] (by (try simp); try omega) (by (try simp); try omega)
        have lS9 : S9.length ≤ 242 := by rw [zS9]; (try simp); try omega
        have ES9 := Lib.hid eS9
        clear eS9 zS9
        obtain ⟨S10, eS10, aS10, nS10, zS10⟩ := strCat S9 F1 (by (try simp); try omega) (by (try simp); try omega)
        have lS10 : S10.length ≤ 342 := by rw [zS10]; (try simp); try omega
        have ES10 := Lib.hid eS10
        clear eS10 zS10
        obtain ⟨S11, eS11, aS11, nS11, zS11⟩ := strCat S10 [41, 32, 91] (by (try simp); try omega) (by (try simp); try omega)
        have lS11 : S11.length ≤ 345 := by rw [zS11]; (try simp); try omega
        have ES11 := Lib.hid eS11
        clear eS11 zS11
        obtain ⟨S12, eS12, aS12, nS12, zS12⟩ := strCat S11 F2 (by (try simp); try omega) (by (try simp); try omega)
        have lS12 : S12.length ≤ 445 := by rw [zS12]; (try simp); try omega
        have ES12 := Lib.hid eS12
        clear eS12 zS12
        obtain ⟨S13, eS13, aS13, nS13, zS13⟩ := strCat S12 [124] (by (try simp); try omega) (by (try simp); try omega)
        have lS13 : S13.length ≤ 446 := by rw [zS13]; (try simp); try omega
        have ES13 := Lib.hid eS13
        clear eS13 zS13
        obtain ⟨S14, eS14, aS14, nS14, zS14⟩ := strCat S13 F3 (by (try simp); try omega) (by (try simp); try omega)
        have lS14 : S14.length ≤ 546 := by rw [zS14]; (try simp); try omega
        have ES14 := Lib.hid eS14
        clear eS14 zS14
        obtain ⟨S15, eS15, aS15, nS15, zS15⟩ := strCat S14 [93, 32] (by (try simp); try omega) (by (try simp); try omega)
        have lS15 : S15.length ≤ 548 := by rw [zS15]; (try simp); try omega
        have ES15 := Lib.hid eS15
        clear eS15 zS15
        obtain ⟨S16, eS16, aS16, nS16, zS16⟩ := strCat S15 QU (by (try simp); try omega) (by (try simp); try omega)
        have lS16 : S16.length ≤ 10548 := by rw [zS16]; (try simp); try omega
        have ES16 := Lib.hid eS16
        clear eS16 zS16
        obtain ⟨S17, eS17, aS17, nS17, zS17⟩ := strCat S16 [32] (by (try simp); try omega) (by (try simp); try omega)
        have lS17 : S17.length ≤ 10549 := by rw [zS17]; (try simp); try omega
        have ES17 := Lib.hid eS17
        clear eS17 zS17
        obtain ⟨S18, eS18, aS18, nS18, zS18⟩ := strCat S17 JT (by (try simp); try omega) (by (try simp); try omega)
        have lS18 : S18.length ≤ 300010549 := by rw [zS18]; (try simp); try omega
        have ES18 := Lib.hid eS18
        clear eS18 zS18
        simp only [List.length_cons, List.length_nil, Nat.reduceAdd] at nS0 nS2 nS4 nS7 nS9 nS11 nS13 nS15 nS17
        obtain ⟨TX, hTX⟩ : ∃ TX, TX = [83, 71, 95, 32] ++ (NM ++ (tR ++ ([32, 58, 32] ++ (I1 ++ ([124] ++ (I2 ++ (O ++ ([32, 40] ++ (F0 ++ ([44] ++ (F1 ++ ([41, 32, 91] ++ (F2 ++ ([124] ++ (F3 ++ ([93, 32] ++ (QU ++ ([32] ++ JT)))))))))))))))))) := ⟨_, rfl⟩
        rw [← hTX] at HV
        have hS : TX = S18 := by
          rw [hTX, ES18.out, ES17.out, ES16.out, ES15.out, ES14.out, ES13.out, ES12.out, ES11.out, ES10.out, ES9.out, ES8.out, ES7.out, ES6.out, ES5.out, ES4.out, ES3.out, ES2.out, ES1.out, ES0.out]
          simp only [List.append_assoc]
        rw [hS] at HV
        clear hTX hS
        clear ES0 ES1 ES2 ES3 ES4 ES5 ES6 ES7 ES8 ES9 ES10 ES11 ES12 ES13 ES14 ES15 ES16 ES17 ES18
        go_wp2_with fail
        refine wp_region_later0 (by kernel_rfl) (by kernel_rfl) ?_
        repeat (first | (refine wpQuiet_loadS (k := w.heap.size) (cs := C) (fun W hx => by obtain ⟨x, rfl⟩ := hx; exact LB.out x) 53 (.tmp 1) hu (by rw [e0]; exact sig_size) ?_; simp only [Act.put, List.setIfInBounds_toArray, List.set_cons_zero, List.set_cons_succ]) | go_big_quiet_step ((first | (go_at_call 105; with_reducible exact Later.made (cRx _)) | (go_at_call 73; with_reducible exact Later.made (cI1 _)) | (go_at_call 73; with_reducible exact Later.made (cI2 _)) | (go_at_call 106; with_reducible exact Later.made (cOx _)) | (go_at_call 69; with_reducible exact Later.made (cQx _)))))
        refine wpQuiet_nil ?_
        rintro _ ⟨x, rfl⟩
        have HB9 := Lib.hid (bstep HBW.out x.below (Nat.le_refl _))
        clear cI1 cI2 cRx cOx cQx l2 l5 l6 l17 LB hcv
        generalize x.w = w9 at *
        go_wp2_with fail
        go_ret2
        exact ⟨congrArg Ending.returned HV.out.symm, HB9.out⟩
end Go.Proofs.YtlgbgobpdkilaaaGreatDoor
