/-
  The walk of LexBlanks.
-/
import Derived.Test.YtmifjfohanegiaaGreatDoorPick
import Derived.Test.YtmifjfohanegiaaGreatDoorLexK
import Derived.Test.YtmifjfohanegiaaGreatDoorRlxM
import Derived.Test.YtmifjfohanegiaaGreatDoorCalm
import Derived.Deep.Cut
import Derived.Deep.DeepCutAuto
import Derived.BigQuiet

namespace Go.Proofs.YtmifjfohanegiaaGreatDoor
set_option linter.unusedVariables false
open Go.RowKit Go.Shelf

/-! ### plain -/
theorem joinB_snoc : ∀ (bs : List (List UInt8)) (ts : List TokD) (b : List UInt8) (t : TokD), bs.length = ts.length → joinB (bs ++ [b]) (ts ++ [t]) = joinB bs ts ++ b ++ pieceT t.kind t.text
  | [], [], b, t, _ => by show b ++ (pieceT t.kind t.text ++ []) = [] ++ b ++ _; simp
  | c :: bs, u :: ts, b, t, h => by
    show c ++ (pieceT u.kind u.text ++ joinB (bs ++ [b]) (ts ++ [t])) = (c ++ (pieceT u.kind u.text ++ joinB bs ts)) ++ b ++ _
    rw [joinB_snoc bs ts b t (by simpa using h)]
    simp
  | [], _ :: _, b, t, h => by simp at h
  | _ :: _, [], b, t, h => by simp at h
theorem may_len {t : List UInt8} (h : mayN t = 0) : t.length ≤ 1024 := by
  unfold mayN at h
  split at h
  · cases h
  · omega
theorem chain_len {s : List UInt8} {n : Nat} {l : List TokD} (hc : Chain s n l) : ∀ t ∈ l, t.text.length ≤ s.length + 1024 := by
  induction hc with
  | fin n q hn hb => intro t ht; rw [List.mem_singleton.1 ht]; exact Nat.zero_le _
  | tok n k m t r hn hi hb ht hm hr ih =>
    intro u hu
    rcases List.mem_cons.1 hu with rfl | hu
    · by_cases h3 : u.kind = 3
      · have hne0 : s.drop k ≠ [] := by intro h0; have := congrArg List.length h0; rw [List.length_drop] at this; simp at this; omega
        obtain ⟨c, v, hcu⟩ := List.exists_cons_of_ne_nil hne0
        have hmay : mayN u.text = 0 := by
          rw [h3, hcu, tok_bytes] at ht
          split at ht
          · cases ht
          · split at ht
            · split at ht <;> cases ht
            · split at ht
              · exact textR_may ht
              · split at ht
                · cases ht
                · split at ht <;> cases ht
        have := may_len hmay
        omega
      · rw [tok_text ht h3, List.length_take, List.length_drop]; omega
    · exact ih u hu
theorem piece_len (k : Int) (t : List UInt8) : (pieceT k t).length ≤ 2 * t.length + 2 := by
  unfold pieceT
  split
  · unfold quoL
    have h1 := escQ_len t
    have h2 := cqL_le t
    simp
    omega
  · omega

/-! ### blanks, sameButPlaces -/
def blT : List ByteArray := [⟨#[32]⟩, ⟨#[10]⟩, ⟨#[9]⟩, ⟨#[13]⟩, ⟨#[32, 32]⟩, ⟨#[32, 10]⟩, ⟨#[13, 10]⟩, ⟨#[10, 10, 9, 32]⟩]
theorem blT_ok : ∀ k, (h : k < blT.length) → ∃ b : List UInt8, blT[k] = ⟨b.toArray⟩ ∧ bls b ∧ b ≠ [] ∧ b.length ≤ 4 := fun k h => by
  have h8 : k < 8 := h
  rcases (show k = 0 ∨ k = 1 ∨ k = 2 ∨ k = 3 ∨ k = 4 ∨ k = 5 ∨ k = 6 ∨ k = 7 by omega) with rfl | rfl | rfl | rfl | rfl | rfl | rfl | rfl
  · exact ⟨[32], rfl, by unfold bls; decide, by decide, by decide⟩
  · exact ⟨[10], rfl, by unfold bls; decide, by decide, by decide⟩
  · exact ⟨[9], rfl, by unfold bls; decide, by decide, by decide⟩
  · exact ⟨[13], rfl, by unfold bls; decide, by decide, by decide⟩
  · exact ⟨[32, 32], rfl, by unfold bls; decide, by decide, by decide⟩
  · exact ⟨[32, 10], rfl, by unfold bls; decide, by decide, by decide⟩
  · exact ⟨[13, 10], rfl, by unfold bls; decide, by decide, by decide⟩
  · exact ⟨[10, 10, 9, 32], rfl, by unfold bls; decide, by decide, by decide⟩
set_option maxRecDepth 100000 in
set_option maxHeartbeats 2000000 in
theorem blanks_any (n : Int) (hn : -9223372036854775808 ≤ n ∧ n ≤ 9223372036854775807) (w : World) :
    Calls Tryz.prog 8 #[.int .i64 n] w fun e w' => ∃ b : List UInt8, e = .returned (.string ⟨b.toArray⟩) ∧ bls b ∧ b ≠ [] ∧ b.length ≤ 4 ∧ Below w.heap.size w w' := by
  have HS := Lib.hid (SlOf.lit w enBs 1 (fun _ => rfl) blT #[.string ⟨#[32]⟩, .string ⟨#[10]⟩, .string ⟨#[9]⟩, .string ⟨#[13]⟩, .string ⟨#[32, 32]⟩, .string ⟨#[32, 10]⟩, .string ⟨#[13, 10]⟩, .string ⟨#[10, 10, 9, 32]⟩] 9 8 rfl rfl (by decide))
  have HB0 := Lib.hid ((Below.refl w.heap.size w).alloc (Nat.le_refl _) (.cells #[.string ⟨#[32]⟩, .string ⟨#[10]⟩, .string ⟨#[9]⟩, .string ⟨#[13]⟩, .string ⟨#[32, 32]⟩, .string ⟨#[32, 10]⟩, .string ⟨#[13, 10]⟩, .string ⟨#[10, 10, 9, 32]⟩] 9))
  have cP : ∀ W : World, Calls Tryz.prog 22 #[.int .i64 n, .int .i64 8] W fun e w' => ∃ k : Nat, k < 8 ∧ e = .returned (.int .i64 k) ∧ Below W.heap.size W w' := fun W => pick_any n hn 8 (by decide) (by decide) W
  clear hn
  go_enter Tryz.func8, Tryz.ntmps8
  go_wp2_with fail
  generalize w.alloc (.cells #[.string ⟨#[32]⟩, .string ⟨#[10]⟩, .string ⟨#[9]⟩, .string ⟨#[13]⟩, .string ⟨#[32, 32]⟩, .string ⟨#[32, 10]⟩, .string ⟨#[13, 10]⟩, .string ⟨#[10, 10, 9, 32]⟩] 9) = w1 at *
  with_reducible refine (cP _).mono ?_
  rintro e w2 ⟨k, hk, rfl, hb⟩
  obtain ⟨b, hbk, hb1, hb2, hb3⟩ := blT_ok k hk
  have HB2 := Lib.hid (bstep HB0.out hb (Nat.le_refl _))
  obtain ⟨bb, oo, e0, -, hc⟩ := SlOf.cell1 (HS.out.keep hb (Nat.le_refl _)) (fun x : ByteArray => .string x) (fun _ => rfl) (k := k) hk
  cases e0
  rw [hbk, Nat.zero_add] at hc
  have H1 := Lib.hid hb1
  have H2 := Lib.hid hb2
  have H3 := Lib.hid hb3
  clear hb hbk hb1 hb2 hb3 cP HS HB0
  go_wp2_with fail
  go_ret
  exact ⟨b, rfl, H1.out, H2.out, H3.out, HB2.out⟩

theorem KT_at {l m : List TokD} (h : KT m = KT l) (k : Nat) (hk : k < l.length) (hk2 : k < m.length) : m[k].kind = l[k].kind ∧ m[k].text = l[k].text := by
  have h1 := congrArg (·[k]?) h
  unfold KT at h1
  simp only [List.getElem?_map, List.getElem?_eq_getElem hk, List.getElem?_eq_getElem hk2, Option.map_some, Option.some.injEq, Prod.mk.injEq] at h1
  exact h1
theorem KT_len {l m : List TokD} (h : KT m = KT l) : m.length = l.length := by
  have := congrArg List.length h
  unfold KT at this
  simpa using this
set_option maxRecDepth 100000 in
set_option maxHeartbeats 2000000 in
theorem sameBut_any (l m : List TokD) (h : KT m = KT l) (n p : Nat) (hn : n = l.length) (hp : p = m.length) (a b : Option Addr) (c d : Nat) (w : World) (hs : SlOf w enTok 4 a c l) (ht : SlOf w enTok 4 b d m) :
    Calls Tryz.prog 10 #[.slice a n c, .slice b p d] w fun e w' => e = .returned (.bool true) ∧ Below w.heap.size w w' := by
  have hl := KT_len h
  rw [hl] at hp
  have HK := Lib.hid (fun k hk hk2 => KT_at h k hk hk2)
  have HL := Lib.hid hl
  subst hn
  subst hp
  have h1 := hs.len
  clear h hl
  go_enter Tryz.func10, Tryz.ntmps10
  go_wp2_with fail
  go_loopw [5] (fun i wr => ∃ k : Nat, k ≤ l.length ∧ i = .int .i64 k ∧ Below w.heap.size w wr) (fun i _ => l.length - (intOf i).toNat)
  case atStart => exact ⟨0, Nat.zero_le _, rfl, Below.refl _ _⟩
  case round =>
    obtain ⟨k, hk, rfl, hbel⟩ := hrel
    by_cases hlt : k < l.length
    · have hlt2 : k < m.length := by rw [HL.out]; exact hlt
      obtain ⟨ba, oa, rfl, hba, hc0, hc1, -, -⟩ := tok_at (hs.keep hbel (Nat.le_refl _)) hlt
      obtain ⟨bb, ob, rfl, hbb, hd0, hd1, -, -⟩ := tok_at (ht.keep hbel (Nat.le_refl _)) hlt2
      obtain ⟨e1, e2⟩ := HK.out k hlt hlt2
      rw [e1] at hd0
      rw [e2] at hd1
      clear e1 e2 hlt2
      generalize l[k].kind = x0 at *
      generalize (⟨l[k].text.toArray⟩ : ByteArray) = x1 at *
      have HBE := Lib.hid hbel
      clear hbel
      go_wp2_with fail
      go_quiet (fail)
      go_wp2_with fail
      go_roundw
      case rel => exact ⟨k + 1, by omega, by go_num, Go.below_drewN HBE.out _⟩
      case measure => simp [intOf]; omega
    · have : k = l.length := by omega
      subst this
      go_wp2_with fail
      go_ret
      exact ⟨rfl, hbel⟩

def SepZ (bb : Bool) (i : Nat) : Prop := bb = false → i = 0
def SepB (i : Nat) (b : List UInt8) : Prop := bls b ∧ b.length ≤ 4 ∧ (0 < i → b ≠ [])
set_option maxRecDepth 100000 in
set_option maxHeartbeats 16000000 in
theorem lexblanks_any (s : List UInt8) (hs : s.length ≤ 9223372036854775807) (xs : List Int) (a0 : Option Addr) (c0 : Nat) (w : World) (hx : SlOf w (enInt .i64) 1 a0 c0 xs) (hxb : ∀ x ∈ xs, -9223372036854775808 ≤ x ∧ x ≤ 9223372036854775807) (hT : TabsU w) :
    Calls Tryz.prog 3 #[.string ⟨s.toArray⟩, .slice a0 xs.length c0] w fun e w' => e = .returned (.bool true) ∧ Below w.heap.size w w' := by
  have HT := Lib.hid hT
  have ca := scan_any s hs w hT
  have HX := Lib.hid hx
  have HXB := Lib.hid hxb
  have hxm := hx.le
  have hxc := hx.max
  unfold maxLen at hxc
  clear hT hx hxb
  cases hsa : scanL s with
  | bad v =>
    obtain ⟨T, d, rfl⟩ := scanL_bad hsa
    rw [hsa] at ca
    clear hsa
    go_enter Tryz.func3, Tryz.ntmps3
    go_wp2_with fail
    with_reducible refine (ca).mono ?_
    rintro e w1 ⟨rfl, hb1⟩
    have HT1 := Lib.hid (HT.out.keep hb1)
    have HB1 := Lib.hid hb1
    clear hb1 ca
    go_wp2_with fail
    with_reducible refine (works_any _ HT1.out).mono ?_
    rintro e w2 ⟨rfl, hb2⟩
    have HT2 := Lib.hid (HT1.out.keep hb2)
    have HB2 := Lib.hid (bstep HB1.out hb2 (Nat.le_refl _))
    clear hb2
    go_wp2_with fail
    with_reducible refine (works_any _ HT2.out).mono ?_
    rintro e w3 ⟨rfl, hb3⟩
    have HB3 := Lib.hid (bstep HB2.out hb3 (Nat.le_refl _))
    clear hb3
    go_wp2_with fail
    go_ret
    exact ⟨rfl, HB3.out⟩
  | good l =>
    obtain ⟨a1, a2, a3, -⟩ := scanL_bd hsa
    rw [hsa] at ca
    have HPL := Lib.hid (fun bs h1 h2 h3 h4 => blanks_plain hsa bs h1 h2 h3 h4)
    have HLN := Lib.hid (chain_len (scanL_chain hsa))
    clear hsa
    by_cases hbig : (16384 : Int) < (l.length : Int)
    · have HA := Lib.hid a2
      clear a2 a1 a3
      go_enter Tryz.func3, Tryz.ntmps3
      go_wp2_with fail
      with_reducible refine (ca).mono ?_
      rintro e w1 ⟨al, cl, rfl, -, hb1⟩
      have HT1 := Lib.hid (HT.out.keep hb1)
      have HB1 := Lib.hid hb1
      clear hb1 ca
      go_wp2_with fail
      with_reducible refine (works_any _ HT1.out).mono ?_
      rintro e w2 ⟨rfl, hb2⟩
      have HT2 := Lib.hid (HT1.out.keep hb2)
      have HB2 := Lib.hid (bstep HB1.out hb2 (Nat.le_refl _))
      clear hb2
      go_wp2_with fail
      with_reducible refine (works_any _ HT2.out).mono ?_
      rintro e w3 ⟨rfl, hb3⟩
      have HB3 := Lib.hid (bstep HB2.out hb3 (Nat.le_refl _))
      clear hb3
      go_wp2_with fail
      go_ret
      exact ⟨rfl, HB3.out⟩
    have gbig : decide ((16384 : Int) < (l.length : Int)) = false := decide_eq_false hbig
    have hlb : l.length ≤ 16384 := by omega
    by_cases hbs : (262144 : Int) < (s.length : Int)
    · have HA := Lib.hid a2
      clear a2 a1 a3 hbig hlb
      go_enter Tryz.func3, Tryz.ntmps3
      go_wp2_with fail
      with_reducible refine (ca).mono ?_
      rintro e w1 ⟨al, cl, rfl, -, hb1⟩
      have HT1 := Lib.hid (HT.out.keep hb1)
      have HB1 := Lib.hid hb1
      clear hb1 ca
      go_wp2_with fail
      with_reducible refine (works_any _ HT1.out).mono ?_
      rintro e w2 ⟨rfl, hb2⟩
      have HT2 := Lib.hid (HT1.out.keep hb2)
      have HB2 := Lib.hid (bstep HB1.out hb2 (Nat.le_refl _))
      clear hb2
      go_wp2_with fail
      with_reducible refine (works_any _ HT2.out).mono ?_
      rintro e w3 ⟨rfl, hb3⟩
      have HB3 := Lib.hid (bstep HB2.out hb3 (Nat.le_refl _))
      clear hb3
      go_wp2_with fail
      go_ret
      exact ⟨rfl, HB3.out⟩
    have gbs : decide ((262144 : Int) < (s.length : Int)) = false := decide_eq_false hbs
    have hsb : s.length ≤ 262144 := by omega
    have HLN2 := Lib.hid (fun (t : TokD) (ht : t ∈ l) => (show t.text.length ≤ 263168 by have := HLN.out t ht; omega))
    have HSB := Lib.hid hsb
    have HA3 := Lib.hid a3
    clear HLN hbs hsb a1 a2 a3 hbig
    go_enter Tryz.func3, Tryz.ntmps3
    go_wp2_with fail
    with_reducible refine (ca).mono ?_
    rintro e w1 ⟨al, cl, rfl, hol, hb1⟩
    have HT1 := Lib.hid (HT.out.keep hb1)
    have HX1 := Lib.hid (HX.out.keep hb1 (Nat.le_refl _))
    have HL1 := Lib.hid hol.sl.2
    have HB1 := Lib.hid hb1
    clear hb1 ca hol
    go_wp2_with fail
    with_reducible refine (works_any _ HT1.out).mono ?_
    rintro e w2 ⟨rfl, hb2⟩
    have HT2 := Lib.hid (HT1.out.keep hb2)
    have HX2 := Lib.hid (HX1.out.keep hb2 (Nat.le_refl _))
    have HL2 := Lib.hid (SlOf.keep HL1.out hb2 (Nat.le_refl _))
    have HB2 := Lib.hid (bstep HB1.out hb2 (Nat.le_refl _))
    clear hb2 HT1 HX1 HL1 HB1 HT HX
    obtain ⟨bt, ot, rfl, hbt, -, -, -, -⟩ := tok_at HL2.out HA3.out
    go_wp2_with fail
    clear gbig gbs
    go_loopw [7, 8] (fun o x wr => ∃ (i : Nat) (bs : List (List UInt8)), i ≤ l.length ∧ x = .int .i64 i ∧ o = .string ⟨(joinB bs (l.take i)).toArray⟩ ∧ bs.length = i ∧ (∀ b ∈ bs, bls b) ∧ (∀ b ∈ bs.tail, b ≠ []) ∧ (joinB bs (l.take i)).length ≤ 600000 * i ∧ Below w2.heap.size w2 wr) (fun _ x _ => l.length - (intOf x).toNat)
    case atStart => exact ⟨0, [], Nat.zero_le _, rfl, rfl, rfl, (fun b hb => by cases hb), (fun b hb => by cases hb), Nat.zero_le _, Below.refl _ _⟩
    case round =>
      obtain ⟨i, bs, hi, rfl, rfl, hbl, hbs1, hbs2, hol, hbel⟩ := hrel
      have HBE := Lib.hid hbel
      have HBL := Lib.hid hbl
      have HS1 := Lib.hid hbs1
      have HS2 := Lib.hid hbs2
      clear hbel hbl hbs1 hbs2
      by_cases hlt : i < l.length
      · have HJ := Lib.hid (fun b => (show joinB (bs ++ [b]) (l.take (i + 1)) = joinB bs (l.take i) ++ b ++ pieceT l[i].kind l[i].text by
          rw [List.take_succ_eq_append_getElem hlt]; exact joinB_snoc _ _ _ _ (by rw [HBL.out, List.length_take]; omega)))
        have htl := HLN2.out l[i] (List.getElem_mem hlt)
        have hpl := piece_len l[i].kind l[i].text
        obtain ⟨bt', ot', he, -, c0, c1, -, -⟩ := tok_at (SlOf.keep HL2.out HBE.out (Nat.le_refl _)) hlt
        cases he
        have HXr := Lib.hid (HX2.out.keep HBE.out (Nat.le_refl _))
        have HLr := Lib.hid (SlOf.keep HL2.out HBE.out (Nat.le_refl _))
        generalize joinB bs (l.take i) = O at *
        have hltI : (i : Int) < l.length := by omega
        go_upto_region 8 with fail
        go_cut [47] (fun x ws => ∃ bb : Bool, x = .bool bb ∧ SepZ bb i ∧ ws = wr)
        case first =>
          clear c0 c1
          by_cases h0 : i = 0
          · subst h0
            cases hm : ((xs.length : Int) % 2 == 1)
            · go_wp2_with fail
              go_meet
              case rel => exact ⟨false, rfl, (fun _ => rfl), rfl⟩
            · go_wp2_with fail
              go_meet
              case rel => exact ⟨true, rfl, (fun h => by cases h), rfl⟩
          · have h1 : (0 : Int) < i := by omega
            go_wp2_with fail
            go_meet
            case rel => exact ⟨true, rfl, (fun h => by cases h), rfl⟩
        case rest =>
        obtain ⟨bb, rfl, hbb, rfl⟩ := hcut
        obtain ⟨wr, hwr⟩ : ∃ x, x = wc := ⟨_, rfl⟩
        subst hwr
        go_upto_if 47 with (fail)
        go_cut [7] (fun x ws => ∃ b : List UInt8, x = .string ⟨(O ++ b).toArray⟩ ∧ SepB i b ∧ Below wr.heap.size wr ws)
        case first =>
          clear c0 c1
          cases bb
          · have hi0 := hbb rfl
            clear hbb
            go_wp2_with fail
            go_meet
            case rel => exact ⟨[], by rw [List.append_nil], ⟨(fun c hc => by cases hc), Nat.zero_le _, (fun h => by omega)⟩, Below.refl _ _⟩
          · have hob : ∀ b : List UInt8, (⟨O.toArray⟩ : ByteArray) ++ ⟨b.toArray⟩ = ⟨(O ++ b).toArray⟩ := fun b => strs_appQ O b
            have HOB := Lib.hid hob
            clear hob hbb
            by_cases hm0 : xs.length = 0
            · obtain rfl : xs = [] := List.length_eq_zero_iff.1 hm0
              go_wp2_with fail
              with_reducible refine (blanks_any 0 (by decide) _).mono ?_
              rintro e w4 ⟨b, rfl, h1, h2, h3, hb⟩
              have hob := HOB.out b
              have H1 := Lib.hid h1
              have H2 := Lib.hid h2
              have hn1 : ¬ (9223372036854775807 < O.length + b.length) := by omega
              have HB4 := Lib.hid hb
              clear h1 h2 hb
              go_wp2_with fail
              go_meet
              case rel => exact ⟨b, rfl, ⟨H1.out, h3, (fun _ => H2.out)⟩, HB4.out⟩
            · have hmp : 0 < xs.length := by omega
              have hmI : (0 : Int) < xs.length := by omega
              have hlm : i % xs.length < xs.length := Nat.mod_lt _ hmp
              have hm1 : 0 ≤ (i : Int) % (xs.length : Int) := by omega
              have hm2 : (i : Int) % (xs.length : Int) < (xs.length : Int) := Int.emod_lt_of_pos _ hmI
              have hm3 : ((i : Int) % (xs.length : Int)).toNat = i % xs.length := by rw [← Int.natCast_emod]; rfl
              obtain ⟨bx, ox, he2, -, hcx⟩ := SlOf.cell1 HXr.out (fun x : Int => .int .i64 x) (fun _ => rfl) (k := i % xs.length) hlm
              subst he2
              have hxb := HXB.out xs[i % xs.length] (List.getElem_mem hlm)
              have cb := fun W => blanks_any xs[i % xs.length] hxb W
              generalize xs[i % xs.length] = xv at *
              go_wp2_with fail
              with_reducible refine (cb _).mono ?_
              rintro e w4 ⟨b, rfl, h1, h2, h3, hb⟩
              have hob := HOB.out b
              have H1 := Lib.hid h1
              have H2 := Lib.hid h2
              have hn1 : ¬ (9223372036854775807 < O.length + b.length) := by omega
              have HB4 := Lib.hid hb
              clear h1 h2 hb
              go_wp2_with fail
              go_meet
              case rel => exact ⟨b, rfl, ⟨H1.out, h3, (fun _ => H2.out)⟩, HB4.out⟩
        case rest =>
        obtain ⟨b, rfl, ⟨hb1, hb2, hb3⟩, hb⟩ := hcut
        have HBr := Lib.hid (bstep HBE.out hb (Nat.le_refl _))
        obtain ⟨bt', ot', he, -, c0', c1', -, -⟩ := tok_at (SlOf.keep HLr.out hb (Nat.le_refl _)) hlt
        cases he
        obtain ⟨w5, hw5⟩ : ∃ x, x = wc := ⟨_, rfl⟩
        subst hw5
        have HSn1 := Lib.hid (show ∀ c ∈ bs ++ [b], bls c from fun c hc => by
          rcases List.mem_append.1 hc with h | h
          · exact HS1.out c h
          · rw [List.mem_singleton.1 h]; exact hb1)
        have HSn2 := Lib.hid (show ∀ c ∈ (bs ++ [b]).tail, c ≠ [] from fun c hc => by
          rcases bs with _ | ⟨b0, bs⟩
          · cases hc
          · rcases List.mem_append.1 hc with h | h
            · exact HS2.out c h
            · rw [List.mem_singleton.1 h]; exact hb3 (by have := HBL.out; rw [List.length_cons] at this; omega))
        have HJb := Lib.hid (HJ.out b)
        have hO1 : (O ++ b).length ≤ 600000 * i + 4 := by rw [List.length_append]; omega
        clear c0 c1 hb hb1 hb2 hb3 HJ HS1 HS2 HBE HXr HLr hbb
        generalize l[i].kind = kd at *
        generalize l[i].text = tx at *
        generalize hO2 : O ++ b = O1 at *
        clear hO2
        by_cases h3 : kd = 3
        · subst h3
          have cQ := fun W => quote_any tx (by omega) W
          have HP := Lib.hid (show pieceT 3 tx = quoL tx from rfl)
          rw [HP.out] at hpl HJb
          have hap := strs_appQ O1 (quoL tx)
          have hlq : (O1 ++ quoL tx).length = O1.length + (quoL tx).length := List.length_append
          generalize quoL tx = qt at *
          generalize O1 ++ qt = O2 at *
          have hn1 : ¬ (9223372036854775807 < O1.length + qt.length) := by omega
          have HLQ := Lib.hid hlq
          clear hlq
          go_wp2_with fail
          with_reducible refine (cQ _).mono ?_
          rintro e w6 ⟨rfl, hb⟩
          have HB6 := Lib.hid (bstep HBr.out hb (Nat.le_refl _))
          clear hb cQ
          go_wp2_with fail
          go_roundw
          case rel => exact ⟨i + 1, bs ++ [b], by omega, by go_num, by rw [HJb.out], by rw [List.length_append, HBL.out]; rfl, HSn1.out, HSn2.out, by rw [HJb.out, HLQ.out]; omega, HB6.out⟩
          case measure => simp [intOf]; omega
        · have HP := Lib.hid (show pieceT kd tx = tx by unfold pieceT; rw [if_neg h3])
          have hk3 : (kd == 3) = false := by rw [beq_eq_false_iff_ne]; exact h3
          rw [HP.out] at hpl HJb
          have hap := strs_appQ O1 tx
          have hlq : (O1 ++ tx).length = O1.length + tx.length := List.length_append
          generalize O1 ++ tx = O2 at *
          have hn1 : ¬ (9223372036854775807 < O1.length + tx.length) := by omega
          have HLQ := Lib.hid hlq
          clear hlq h3
          go_wp2_with fail
          go_roundw
          case rel => exact ⟨i + 1, bs ++ [b], by omega, by go_num, by rw [HJb.out], by rw [List.length_append, HBL.out]; rfl, HSn1.out, HSn2.out, by rw [HJb.out, HLQ.out]; omega, HBr.out⟩
          case measure => simp [intOf]; omega
      · have hil : i = l.length := by omega
        subst hil
        rw [List.take_length] at hol ⊢
        have hpl := HPL.out bs HBL.out HS1.out HS2.out
        have HLr := Lib.hid (SlOf.keep HL2.out HBE.out (Nat.le_refl _))
        have HTr := Lib.hid (HT2.out.keep HBE.out)
        generalize joinB bs l = O at *
        by_cases hbO : (1048576 : Int) < (O.length : Int)
        · have HX := Lib.hid (bstep HB2.out HBE.out (Nat.le_refl _))
          clear hpl
          go_wp2_with fail
          go_ret
          exact ⟨rfl, HX.out⟩
        · obtain ⟨l', hl', hkt⟩ := hpl (by omega)
          have cs := scan_any O (by omega) wr HTr.out
          rw [hl'] at cs
          have HKT := Lib.hid hkt
          clear hpl hl' hkt
          go_wp2_with fail
          with_reducible refine cs.mono ?_
          rintro e w6 ⟨a6, c6, rfl, ho6, hb6⟩
          have HS6 := Lib.hid ho6.sl.2
          have HL6 := Lib.hid (SlOf.keep HLr.out hb6 (Nat.le_refl _))
          have HB6 := Lib.hid (bstep (bstep HB2.out HBE.out (Nat.le_refl _)) hb6 (Nat.le_refl _))
          clear ho6 hb6 cs
          go_wp2_with fail
          with_reducible refine (sameBut_any l l' HKT.out _ _ rfl rfl _ _ _ _ _ HL6.out HS6.out).mono ?_
          rintro e w7 ⟨rfl, hb⟩
          have HB7 := Lib.hid (bstep HB6.out hb (Nat.le_refl _))
          clear hb
          go_wp2_with fail
          go_ret
          exact ⟨rfl, HB7.out⟩
theorem lexblanks_str (s : ByteArray) (hs : s.size ≤ 9223372036854775807) (xs : List Int) (a0 : Option Addr) (c0 : Nat) (w : World) (hx : SlOf w (enInt .i64) 1 a0 c0 xs) (hxb : ∀ x ∈ xs, (Lit.int .i64 x).wf = true) (hT : TabsU w) :
    Calls Tryz.prog 3 #[.string s, .slice a0 xs.length c0] w fun e w' => e = .returned (.bool true) ∧ Below w.heap.size w w' := by
  have e : (⟨s.data.toList.toArray⟩ : ByteArray) = s := by cases s; simp
  have h := lexblanks_any s.data.toList (by rw [Array.length_toList]; exact hs) xs a0 c0 w hx (fun x h => i64_bd (hxb x h)) hT
  rw [e] at h
  exact h
end Go.Proofs.YtmifjfohanegiaaGreatDoor
