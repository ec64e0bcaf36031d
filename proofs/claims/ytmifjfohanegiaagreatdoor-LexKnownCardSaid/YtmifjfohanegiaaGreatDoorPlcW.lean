/-
  The walk of LexPlaces.
-/
import Derived.Test.YtmifjfohanegiaaGreatDoorPlcA
import Derived.Test.YtmifjfohanegiaaGreatDoorParX
import Derived.Test.YtmifjfohanegiaaGreatDoorFltE
import Derived.Test.YtmifjfohanegiaaGreatDoorLexK
import Derived.Test.YtmifjfohanegiaaGreatDoorRlxM
import Derived.Test.YtmifjfohanegiaaGreatDoorCalm
import Derived.Deep.Cut
import Derived.Deep.DeepCutAuto
import Derived.BigQuiet

namespace Go.Proofs.YtmifjfohanegiaaGreatDoor
set_option linter.unusedVariables false
open Go.RowKit Go.Shelf

/-- what Parse answers of a number that was scanned -/
theorem parse_forms (t : List UInt8) (h : ∃ x, readL t = some x) : ∃ (n d : Int) (f : Value), parseV t = .tuple #[.agg #[.int .i64 n, .int .i64 d], f] ∧ (f = .nilIface ∨ f = errV 3 ∨ f = errV 9) := by
  unfold parseV
  split
  · exact ⟨0, 0, _, rfl, .inr (.inl rfl)⟩
  · obtain ⟨⟨neg, d, p⟩, hx⟩ := h
    rw [hx]
    show ∃ (n d' : Int) (f : Value), ratV (parseF neg (valL d) p) = _ ∧ _
    cases parseF neg (valL d) p with
    | none => exact ⟨0, 0, _, rfl, .inr (.inr rfl)⟩
    | some r => obtain ⟨n, d⟩ := r; exact ⟨n, d, _, rfl, .inl rfl⟩
theorem ext_midP (L : List UInt8) (i n : Nat) : (⟨L.toArray⟩ : ByteArray).extract i (i + n) = ⟨((L.drop i).take n).toArray⟩ := by
  have h : ∀ (a b : ByteArray), a.data.toList = b.data.toList → a = b := fun a b e => by cases a; cases b; simp at e; rw [e]
  apply h
  rw [Go.Lib.extract_data]
  show (L.drop i).take (i + n - i) = _
  rw [Nat.add_sub_cancel_left]
/-- the i-th token -/
theorem plc_tok {s : List UInt8} {l : List TokD} (hl : scanL s = .good l) (i : Nat) (h : i < l.length) :
    (∀ h1 : 0 < i, AftP (l[i].line, l[i].col) (l[i - 1].line, l[i - 1].col)) ∧
    ((i + 1 = l.length ∧ l[i].kind = 0 ∧ l[i].text = []) ∨
     (i + 1 < l.length ∧ (l[i].kind = 1 ∨ l[i].kind = 2 ∨ l[i].kind = 3 ∨ l[i].kind = 4) ∧ (l[i].kind = 2 → ∃ x, readL l[i].text = some x) ∧
      (l[i].kind ≠ 3 → ∃ k, Bnd s (1, 1) k (l[i].line, l[i].col) ∧ 0 < l[i].text.length ∧ k + l[i].text.length ≤ s.length ∧ (s.drop k).take l[i].text.length = l[i].text))) := by
  have hc := scanL_chain hl
  refine ⟨fun h1 => ?_, ?_⟩
  · obtain ⟨k, -, ht, hn⟩ := hc.at (i - 1) (by omega)
    obtain ⟨k', hk, ht'⟩ := hn (by omega)
    have e : i - 1 + 1 = i := by omega
    have hb := ht'.bnd
    simp only [e] at hb
    exact ht.bnd.rise hb hk
  · obtain ⟨k, -, ht, -⟩ := hc.at i h
    by_cases he : i + 1 = l.length
    · exact .inl ⟨he, (ht.last he).1, (ht.last he).2⟩
    · obtain ⟨hk, m, hm⟩ := ht.tok (by omega)
      have hne : s.drop k ≠ [] := by intro h0; have := congrArg List.length h0; rw [List.length_drop] at this; simp at this; omega
      have hok := tokR_ok (s.drop k) hne
      rw [hm] at hok
      obtain ⟨o1, o2, o3⟩ := hok
      refine .inr ⟨by omega, by omega, fun h2 => ?_, fun h3 => ⟨k, ht.bnd, ?_⟩⟩
      · rw [h2] at hm; exact tok_num hne hm
      · have htx := tok_text hm h3
        obtain ⟨c, u, hcu⟩ := List.exists_cons_of_ne_nil hne
        have hl := hm
        rw [hcu] at hl
        have h1 := (tok_last c u hl).1
        have hlen : l[i].text.length = m := by rw [htx, List.length_take]; omega
        rw [List.length_drop] at o1
        rw [hlen]
        exact ⟨h1, by omega, htx.symm⟩

set_option maxRecDepth 100000 in
set_option maxHeartbeats 16000000 in
theorem places_any (s : List UInt8) (hs : s.length ≤ 9223372036854775807) (w : World) (hT : TabsU w) (hg : LaidT w) :
    Calls Tryz.prog 4 #[.string ⟨s.toArray⟩] w fun e w' => e = .returned (.bool true) ∧ Below w.heap.size w w' := by
  have HT := Lib.hid hT
  have HG := Lib.hid hg
  have ca := scan_any s hs w hT
  clear hT hg
  cases hsa : scanL s with
  | bad v =>
    obtain ⟨T, d, rfl⟩ := scanL_bad hsa
    rw [hsa] at ca
    clear hsa
    go_enter Tryz.func4, Tryz.ntmps4
    go_wp2_with fail
    with_reducible refine (ca).mono ?_
    rintro e w1 ⟨rfl, hb1⟩
    have HT1 := Lib.hid (HT.out.keep hb1)
    have HB1 := Lib.hid hb1
    clear hb1 ca
    go_wp2_with fail
    with_reducible refine (works_any _ HT1.out).mono ?_
    rintro e w2 ⟨rfl, hb2⟩
    have HT2 := Lib.hid (HT1.out.keep hb2)
    have HB2 := Lib.hid (bstep HB1.out hb2 (Nat.le_refl _))
    clear hb2
    go_wp2_with fail
    with_reducible refine (works_any _ HT2.out).mono ?_
    rintro e w3 ⟨rfl, hb3⟩
    have HB3 := Lib.hid (bstep HB2.out hb3 (Nat.le_refl _))
    clear hb3
    go_wp2_with fail
    go_ret
    exact ⟨rfl, HB3.out⟩
  | good l =>
    obtain ⟨a1, a2, a3, -⟩ := scanL_bd hsa
    rw [hsa] at ca
    have HTK := Lib.hid (plc_tok hsa)
    obtain ⟨n1, hn1⟩ : ∃ n1, l.length = n1 + 1 := ⟨l.length - 1, by omega⟩
    have cpl := fun W => plain4_any s hs W
    have HAS := Lib.hid (fun h : ascL s = true => h)
    clear hsa
    go_enter Tryz.func4, Tryz.ntmps4
    go_wp2_with fail
    with_reducible refine (ca).mono ?_
    rintro e w1 ⟨al, cl, rfl, hol, hb1⟩
    have HT1 := Lib.hid (HT.out.keep hb1)
    have HG1 := Lib.hid (LaidT.keep HG.out hb1)
    have HL1 := Lib.hid hol.sl.2
    have HB1 := Lib.hid hb1
    rw [hn1]
    clear hb1 ca hol HT HG
    go_wp2_with fail
    with_reducible refine (works_any _ HT1.out).mono ?_
    rintro e w2 ⟨rfl, hb2⟩
    have HG2 := Lib.hid (LaidT.keep HG1.out hb2)
    have HL2 := Lib.hid (SlOf.keep HL1.out hb2 (Nat.le_refl _))
    have HB2 := Lib.hid (bstep HB1.out hb2 (Nat.le_refl _))
    clear hb2 HT1 HG1 HL1 HB1
    have hnl : n1 < l.length := by omega
    obtain ⟨bl, ol, rfl, hbl, hc0, hc1, -, -⟩ := tok_at HL2.out hnl
    obtain ⟨-, hkk⟩ := HTK.out n1 hnl
    have hk0 : l[n1].kind = 0 ∧ l[n1].text = [] := by
      rcases hkk with ⟨_, h⟩ | ⟨h, _⟩
      · exact h
      · omega
    rw [hk0.1] at hc0
    rw [hk0.2] at hc1
    have hcl : n1 + 1 ≤ cl := by have := HL2.out.le; omega
    have HN1 := Lib.hid hn1
    have hnb : n1 ≤ 1048576 := by omega
    have HA2 := Lib.hid a2
    have HA1 := Lib.hid a1
    clear hk0 hkk hn1 hnl a2 a3 a1
    go_upto_region 6 with fail
    go_cut [5] (fun x ws => ∃ b : Bool, x = .bool b ∧ (b = true → ascL s = true) ∧ Below w2.heap.size w2 ws)
    case first =>
      cases hb : ascL s
      · rw [hb] at cpl
        clear hb hc0 hc1
        go_wp2_with fail
        with_reducible refine (cpl _).mono ?_
        rintro e w3 ⟨rfl, hb3⟩
        have HB3 := Lib.hid hb3
        clear hb3
        go_wp2_with fail
        go_meet
        case rel => exact ⟨false, rfl, (fun h => by cases h), HB3.out⟩
      · rw [hb] at cpl
        have HBL := Lib.hid hb
        clear hb hc0 hc1
        cases hle : decide ((s.length : Int) ≤ 4096)
        · go_wp2_with fail
          with_reducible refine (cpl _).mono ?_
          rintro e w3 ⟨rfl, hb3⟩
          have HB3 := Lib.hid hb3
          clear hb3
          go_wp2_with fail
          go_meet
          case rel => exact ⟨false, rfl, (fun h => by cases h), HB3.out⟩
        · go_wp2_with fail
          with_reducible refine (cpl _).mono ?_
          rintro e w3 ⟨rfl, hb3⟩
          have HB3 := Lib.hid hb3
          clear hb3
          go_wp2_with fail
          go_meet
          case rel => exact ⟨true, rfl, (fun _ => HBL.out), HB3.out⟩
    case rest =>
    obtain ⟨asc, rfl, hasc, hb3⟩ := hcut
    clear HAS cpl
    have HASC := Lib.hid hasc
    have HG3 := Lib.hid (LaidT.keep HG2.out hb3)
    have HL3 := Lib.hid (SlOf.keep HL2.out hb3 (Nat.le_refl _))
    have HB3 := Lib.hid (bstep HB2.out hb3 (Nat.le_refl _))
    clear hb3 HG2 HL2 HB2 hc0 hc1 hasc
    obtain ⟨w3, hw3⟩ : ∃ x, x = wc := ⟨_, rfl⟩
    subst hw3
    go_wp2_with fail
    go_loopw [6] (fun x wr => ∃ i : Nat, i ≤ n1 + 1 ∧ x = .int .i64 i ∧ Below w3.heap.size w3 wr) (fun x _ => n1 + 1 - (intOf x).toNat)
    case atStart => exact ⟨0, Nat.zero_le _, rfl, Below.refl _ _⟩
    case round =>
      obtain ⟨i, hi, rfl, hbel⟩ := hrel
      have HBE := Lib.hid hbel
      have HGr := Lib.hid (LaidT.keep HG3.out hbel)
      have HLr := Lib.hid (SlOf.keep HL3.out hbel (Nat.le_refl _))
      clear hbel
      by_cases hlt : i < n1 + 1
      · have hil : i < l.length := by rw [HN1.out]; exact hlt
        obtain ⟨hA, hK⟩ := HTK.out i hil
        obtain ⟨b', o', he', hbl2, c0, c1, c2, c3⟩ := tok_at HLr.out hil
        cases he'
        have HA := Lib.hid hA
        have hK2 : (i = n1 ∧ l[i].kind = 0 ∧ l[i].text = []) ∨ (i < n1 ∧ (l[i].kind = 1 ∨ l[i].kind = 2 ∨ l[i].kind = 3 ∨ l[i].kind = 4) ∧ (l[i].kind = 2 → ∃ x, readL l[i].text = some x) ∧
            (l[i].kind ≠ 3 → ∃ k, Bnd s (1, 1) k (l[i].line, l[i].col) ∧ 0 < l[i].text.length ∧ k + l[i].text.length ≤ s.length ∧ (s.drop k).take l[i].text.length = l[i].text)) := by
          have h := HN1.out
          rcases hK with ⟨h1, h2, h3⟩ | ⟨h1, h2, h3, h4⟩
          · exact .inl ⟨by omega, h2, h3⟩
          · exact .inr ⟨by omega, h2, h3, h4⟩
        have HK := Lib.hid hK2
        obtain ⟨pl, hpl⟩ : ∃ x : Int × Int, x = if h : 0 < i then (l[i - 1].line, l[i - 1].col) else (0, 0) := ⟨_, rfl⟩
        have hprev : 0 < i → wr.cell? ⟨bl, ol + (i - 1) * 4 + 2, none⟩ = some (.int .i64 pl.1) ∧ wr.cell? ⟨bl, ol + (i - 1) * 4 + 3, none⟩ = some (.int .i64 pl.2) ∧ AftP (l[i].line, l[i].col) (pl.1, pl.2) := fun h0 => by
          obtain ⟨b', o', he', -, -, -, d2, d3⟩ := tok_at HLr.out (show i - 1 < l.length by omega)
          cases he'
          rw [hpl, dif_pos h0]
          exact ⟨d2, d3, HA.out h0⟩
        have HPV := Lib.hid hprev
        clear hA hK hK2 hpl hprev HA
        generalize l[i].kind = kd at *
        generalize l[i].text = tx at *
        generalize l[i].line = L at *
        generalize l[i].col = C at *
        clear hil
        have HW := Lib.hid ((Below.refl wr.heap.size wr).alloc (Nat.le_refl _) (.cells #[.int .i64 kd, .string ⟨tx.toArray⟩, .int .i64 L, .int .i64 C] 33))
        have HKW := Lib.hid (Blk.new wr #[.int .i64 kd, .string ⟨tx.toArray⟩, .int .i64 L, .int .i64 C] 33)
        have hPc : 0 < i → (wr.alloc (.cells #[.int .i64 kd, .string ⟨tx.toArray⟩, .int .i64 L, .int .i64 C] 33)).cell? ⟨bl, ol + (i - 1) * 4 + 2, none⟩ = some (.int .i64 pl.1) ∧ (wr.alloc (.cells #[.int .i64 kd, .string ⟨tx.toArray⟩, .int .i64 L, .int .i64 C] 33)).cell? ⟨bl, ol + (i - 1) * 4 + 3, none⟩ = some (.int .i64 pl.2) ∧ AftP (L, C) (pl.1, pl.2) := fun h0 => by
          obtain ⟨d2, d3, h⟩ := HPV.out h0
          exact ⟨cell_keep' d2 HW.out, cell_keep' d3 HW.out, h⟩
        have HPC := Lib.hid hPc
        have hsz : wr.heap.size < (wr.alloc (.cells #[.int .i64 kd, .string ⟨tx.toArray⟩, .int .i64 L, .int .i64 C] 33)).heap.size := by simp
        clear hPc HPV
        go_wp2_with fail
        generalize wr.alloc (.cells #[.int .i64 kd, .string ⟨tx.toArray⟩, .int .i64 L, .int .i64 C] 33) = W1 at *
        clear c0 c1 c2 c3
        go_cut [92] (fun x ws => x = .bool false ∧ Below W1.heap.size W1 ws)
        case first =>
          have c0 := HKW.out.cell 0 _ rfl
          have c2 := HKW.out.cell 2 _ rfl
          have c3 := HKW.out.cell 3 _ rfl
          by_cases h0 : i = 0
          · subst h0
            clear HPC
            rcases HK.out with ⟨rfl, rfl, rfl⟩ | ⟨hn, hkd, -, -⟩
            · go_quiet (fail)
              go_wp2_with fail
              go_meet
              case rel => exact ⟨rfl, Go.below_drewN (Below.refl _ _) _⟩
            · have hk0 : (kd == 0) = false := by rw [beq_eq_false_iff_ne]; omega
              have hin : ((0 : Int) == (n1 : Int)) = false := by rw [beq_eq_false_iff_ne]; omega
              clear hkd
              go_quiet (fail)
              go_wp2_with fail
              go_meet
              case rel => exact ⟨rfl, Go.below_drewN (Below.refl _ _) _⟩
          · obtain ⟨j, rfl⟩ : ∃ j, i = j + 1 := ⟨i - 1, by omega⟩
            obtain ⟨d2, d3, haf⟩ := HPC.out (by omega)
            rw [Nat.add_sub_cancel] at d2 d3
            have caf := fun W => after_any L C pl.1 pl.2 haf W
            have hgt : (0 : Int) < (j : Int) + 1 := by omega
            rw [show ((j + 1 : Nat) : Int) = (j : Int) + 1 from by omega]
            have hw1 : IntKind.i64.wrap (j : Int) = (j : Int) := by unfold IntKind.wrap; simp [IntKind.bits, IntKind.signed]; omega
            clear HPC haf h0
            generalize pl.1 = p1 at *
            generalize pl.2 = p2 at *
            have l0 := fun x : Later W1 => Later.cell c0 x
            have l2 := fun x : Later W1 => Later.cell c2 x
            have l3 := fun x : Later W1 => Later.cell c3 x
            have k2 := fun x : Later W1 => Later.cell d2 x
            have k3 := fun x : Later W1 => Later.cell d3 x
            rcases HK.out with ⟨hn, rfl, rfl⟩ | ⟨hn, hkd, -, -⟩
            · have hin : ((j : Int) + 1 == (n1 : Int)) = true := by rw [beq_iff_eq]; omega
              refine wp_region_later0 (by kernel_rfl) (by kernel_rfl) ?_
              repeat (go_big_quiet_step ((first | (go_at_call 12; with_reducible exact Later.made (caf _)))))
              refine wpQuiet_nil ?_
              rintro _ ⟨x, rfl⟩
              go_wp2_with fail
              go_meet
              case rel => exact ⟨rfl, x.below⟩
            · have hk0 : (kd == 0) = false := by rw [beq_eq_false_iff_ne]; omega
              have hin : ((j : Int) + 1 == (n1 : Int)) = false := by rw [beq_eq_false_iff_ne]; omega
              clear hkd
              refine wp_region_later0 (by kernel_rfl) (by kernel_rfl) ?_
              repeat (go_big_quiet_step ((first | (go_at_call 12; with_reducible exact Later.made (caf _)))))
              refine wpQuiet_nil ?_
              rintro _ ⟨x, rfl⟩
              go_wp2_with fail
              go_meet
              case rel => exact ⟨rfl, x.below⟩
        case rest =>
        obtain ⟨rfl, hb1⟩ := hcut
        have HG5 := Lib.hid (LaidT.keep (LaidT.keep HGr.out HW.out) hb1)
        have HK5 := Lib.hid (HKW.out.keep hb1 (Nat.le_refl _))
        have HB5 := Lib.hid (bstep (bstep HBE.out HW.out (Nat.le_refl _)) hb1 (by have h1 := HBE.out.size; have h2 := HW.out.size; omega))
        obtain ⟨w5, hw5⟩ : ∃ x, x = wc := ⟨_, rfl⟩
        subst hw5
        clear hb1 HPC HBE HGr HLr HW HKW hsz
        have c0 := HK5.out.cell 0 _ rfl
        go_upto_if 95 with (fail)
        go_cut [6] (fun x ws => x = .int .i64 i ∧ Below w5.heap.size w5 ws)
        case first =>
          have c1 := HK5.out.cell 1 _ rfl
          by_cases h2 : kd = 2
          · have hkk : i < n1 ∧ (∃ x, readL tx = some x) ∧ tx.length ≤ s.length := by
              rcases HK.out with ⟨_, h, _⟩ | ⟨h1, _, h3, h4⟩
              · omega
              · obtain ⟨k, _, _, h5, _⟩ := h4 (by omega)
                exact ⟨h1, h3 h2, by omega⟩
            obtain ⟨hn, hrd, htl⟩ := hkk
            obtain ⟨nn, dd, f, hpf, hf⟩ := parse_forms tx hrd
            have cpa := fun W => parse_any tx (by omega) W
            rw [hpf] at cpa
            subst h2
            have HTL := Lib.hid htl
            clear hpf hrd htl
            go_wp2_with fail
            with_reducible refine (cpa _).mono ?_
            rintro e w6 ⟨rfl, hb6⟩
            have HB6 := Lib.hid hb6
            have HG6 := Lib.hid (LaidT.keep HG5.out hb6)
            clear hb6 cpa
            have hr := (Below.refl w6.heap.size w6).alloc (Nat.le_refl _) (.cells #[.int .i64 nn, .int .i64 dd] 40)
            have HG7 := Lib.hid (LaidT.keep HG6.out hr)
            have HB7 := Lib.hid (bstep HB6.out hr (Nat.le_refl _))
            clear hr
            rcases hf with rfl | rfl | rfl
            · go_wp2_with fail
              go_meet
              case rel => exact ⟨rfl, HB7.out⟩
            · have cp3 := fun W hW => plain_errno 3 3 (by decide) (by decide) W hW
              unfold errV at *
              go_wp2_with fail
              with_reducible refine (cp3 _ HG7.out).mono ?_
              rintro e w8 ⟨rfl, hb8⟩
              have HB8 := Lib.hid (bstep HB7.out hb8 (Nat.le_refl _))
              clear hb8
              go_wp2_with fail
              go_meet
              case rel => exact ⟨rfl, HB8.out⟩
            · have cp3 := fun W hW => plain_errno 9 3 (by decide) (by decide) W hW
              have cp9 := fun W hW => plain_errno 9 9 (by decide) (by decide) W hW
              unfold errV at *
              go_wp2_with fail
              with_reducible refine (cp3 _ HG7.out).mono ?_
              rintro e w8 ⟨rfl, hb8⟩
              have HB8 := Lib.hid (bstep HB7.out hb8 (Nat.le_refl _))
              have HG8 := Lib.hid (LaidT.keep HG7.out hb8)
              clear hb8 cp3
              go_wp2_with fail
              with_reducible refine (cp9 _ HG8.out).mono ?_
              rintro e w9 ⟨rfl, hb9⟩
              have HB9 := Lib.hid (bstep HB8.out hb9 (Nat.le_refl _))
              clear hb9
              go_wp2_with fail
              go_meet
              case rel => exact ⟨rfl, HB9.out⟩
          · have hk2 : (kd == 2) = false := by rw [beq_eq_false_iff_ne]; exact h2
            clear h2
            go_wp2_with fail
            go_meet
            case rel => exact ⟨rfl, Below.refl _ _⟩
        case rest =>
        obtain ⟨rfl, hb1⟩ := hcut
        have HK6 := Lib.hid (HK5.out.keep hb1 (Nat.le_refl _))
        have HB6 := Lib.hid (bstep HB5.out hb1 (by have h1 := HB5.out.size; omega))
        obtain ⟨w6, hw6⟩ : ∃ x, x = wc := ⟨_, rfl⟩
        subst hw6
        clear hb1 HK5 HB5 HG5 c0
        go_upto_region 17 with fail
        go_cut [129] (fun x ws => ∃ b : Bool, x = .bool b ∧ (b = true → asc = true ∧ (kd = 1 ∨ kd = 2 ∨ kd = 4)) ∧ ws = w6)
        case first =>
          have c0 := HK6.out.cell 0 _ rfl
          have hkc : kd = 0 ∨ kd = 1 ∨ kd = 2 ∨ kd = 3 ∨ kd = 4 := by
            rcases HK.out with ⟨-, h, -⟩ | ⟨-, h, -, -⟩
            · exact .inl h
            · rcases h with h | h | h | h
              · exact .inr (.inl h)
              · exact .inr (.inr (.inl h))
              · exact .inr (.inr (.inr (.inl h)))
              · exact .inr (.inr (.inr (.inr h)))
          cases asc
          · go_wp2_with fail
            go_meet
            case rel => exact ⟨false, rfl, (fun h => by cases h), rfl⟩
          · rcases hkc with rfl | rfl | rfl | rfl | rfl
            · go_wp2_with fail
              go_meet
              case rel => exact ⟨false, rfl, (fun h => by cases h), rfl⟩
            · go_wp2_with fail
              go_meet
              case rel => exact ⟨true, rfl, (by simp), rfl⟩
            · go_wp2_with fail
              go_meet
              case rel => exact ⟨true, rfl, (by simp), rfl⟩
            · go_wp2_with fail
              go_meet
              case rel => exact ⟨false, rfl, (fun h => by cases h), rfl⟩
            · go_wp2_with fail
              go_meet
              case rel => exact ⟨true, rfl, (by simp), rfl⟩
        case rest =>
        obtain ⟨b, rfl, hbt, rfl⟩ := hcut
        cases b
        · clear hbt
          go_wp2_with fail
          go_roundw
          case rel => exact ⟨i + 1, by omega, by go_num, HB6.out⟩
          case measure => simp [intOf]; omega
        · obtain ⟨hat, hkd⟩ := hbt rfl
          have hkk : ∃ k, Bnd s (1, 1) k (L, C) ∧ 0 < tx.length ∧ k + tx.length ≤ s.length ∧ (s.drop k).take tx.length = tx := by
            rcases HK.out with ⟨_, h, _⟩ | ⟨h1, _, h3, h4⟩
            · omega
            · exact h4 (by omega)
          obtain ⟨k, hbd, htp, hke, htk⟩ := hkk
          have cba := fun W => bytesAt_any s (by have := HA1.out; omega) (HASC.out hat) k (by omega) L C hbd W
          have HKE := Lib.hid hke
          have hsl := HA1.out
          have c2 := HK6.out.cell 2 _ rfl
          have c3 := HK6.out.cell 3 _ rfl
          clear hat hkd hbt hbd
          go_wp2_with fail
          with_reducible refine (cba _).mono ?_
          rintro e w8 ⟨rfl, hb8⟩
          have c1 := (HK6.out.keep hb8 (Nat.le_refl _)).cell 1 _ rfl
          have HB8 := Lib.hid (bstep HB6.out hb8 (by have h1 := HB6.out.size; omega))
          have hex := ext_midP s k tx.length
          rw [htk] at hex
          have hemp : tx.isEmpty = false := by cases tx with
            | nil => simp at htp
            | cons a b => rfl
          have hk0 : decide ((k : Int) < 0) = false := decide_eq_false (by omega)
          have hwk : IntKind.i64.wrap ((k : Int) + (tx.length : Int)) = (k : Int) + (tx.length : Int) := by unfold IntKind.wrap; simp [IntKind.bits, IntKind.signed]; omega
          have hgt : decide ((s.length : Int) < (k : Int) + (tx.length : Int)) = false := decide_eq_false (by omega)
          have hnn : 0 ≤ (k : Int) + (tx.length : Int) := by omega
          have hle : (k : Int) + (tx.length : Int) ≤ (s.length : Int) := by omega
          have htn : ((k : Int) + (tx.length : Int)).toNat = k + tx.length := by omega
          clear hb8 cba c2 c3 htk htp
          go_wp2_with fail
          go_quiet (fail)
          go_wp2_with fail
          go_roundw
          case rel => exact ⟨i + 1, by omega, by go_num, Go.below_drewN HB8.out _⟩
          case measure => simp [intOf]; omega
      · have hin : i = n1 + 1 := by omega
        subst hin
        go_wp2_with fail
        go_ret
        exact ⟨rfl, bstep HB3.out HBE.out (Nat.le_refl _)⟩
theorem places_str (s : ByteArray) (hs : s.size ≤ 9223372036854775807) (w : World) (hT : TabsU w) (hg : LaidT w) :
    Calls Tryz.prog 4 #[.string s] w fun e w' => e = .returned (.bool true) ∧ Below w.heap.size w w' := by
  have e : (⟨s.data.toList.toArray⟩ : ByteArray) = s := by cases s; simp
  have h := places_any s.data.toList (by rw [Array.length_toList]; exact hs) w hT hg
  rw [e] at h
  exact h
end Go.Proofs.YtmifjfohanegiaaGreatDoor
