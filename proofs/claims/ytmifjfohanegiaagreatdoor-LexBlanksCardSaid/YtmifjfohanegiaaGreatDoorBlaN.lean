/-
  Plain: a source that is written anew out of its tokens, blanks between: it is fine, and its tokens are the same but for their places.
-/
import Derived.Test.YtmifjfohanegiaaGreatDoorBlaM
namespace Go.Proofs.YtmifjfohanegiaaGreatDoor
set_option linter.unusedVariables false
open Go.RowKit Go.Shelf

/-! ### what is fine -/
theorem decN_trunc {n b0 b1 b2 b3 c1 c2 c3 : Nat} (hn : 1 ≤ n) (e1 : 2 ≤ (Lib.decodeN n b0 b1 b2 b3).2 → c1 = b1) (e2 : 3 ≤ (Lib.decodeN n b0 b1 b2 b3).2 → c2 = b2) (e3 : 4 ≤ (Lib.decodeN n b0 b1 b2 b3).2 → c3 = b3)
    (hill : ¬ ((Lib.decodeN n b0 b1 b2 b3).1 = 65533 ∧ (Lib.decodeN n b0 b1 b2 b3).2 = 1)) : Lib.decodeN (Lib.decodeN n b0 b1 b2 b3).2 b0 c1 c2 c3 = Lib.decodeN n b0 b1 b2 b3 := by
  by_cases h1 : b0 < 128
  · have e : ∀ m x y z, Lib.decodeN m b0 x y z = (b0, 1) := fun m x y z => by unfold Lib.decodeN; rw [if_pos h1]
    rw [e, e]
  obtain ⟨R, k, e⟩ : ∃ R k, Lib.decodeN n b0 b1 b2 b3 = (R, k) := ⟨_, _, rfl⟩
  rw [e] at e1 e2 e3 hill ⊢
  simp only at e1 e2 e3 hill ⊢
  unfold Lib.decodeN at e ⊢
  rw [if_neg h1] at e ⊢
  split at e
  · rename_i h2
    split at e
    · rename_i h3
      cases e
      obtain rfl := e1 (by decide)
      rw [if_pos ⟨h2.1, by decide, h2.2.2⟩, if_pos h3]
    · cases e; exact absurd ⟨rfl, rfl⟩ hill
  rename_i h2
  split at e
  · rename_i h3
    split at e
    · rename_i h4
      cases e
      obtain rfl := e1 (by decide)
      obtain rfl := e2 (by decide)
      rw [if_neg (by omega), if_pos (by omega), if_pos h4]
    · cases e; exact absurd ⟨rfl, rfl⟩ hill
  rename_i h3
  split at e
  · rename_i h4
    split at e
    · rename_i h5
      cases e
      obtain rfl := e1 (by decide)
      obtain rfl := e2 (by decide)
      obtain rfl := e3 (by decide)
      rw [if_neg (by omega), if_neg (by omega), if_pos (by omega), if_pos h5]
    · cases e; exact absurd ⟨rfl, rfl⟩ hill
  · cases e; exact absurd ⟨rfl, rfl⟩ hill
theorem take_ne {s : List UInt8} {n : Nat} (h1 : 1 ≤ n) (h2 : n ≤ s.length) : s.take n ≠ [] := by
  intro h0
  have h := congrArg List.length h0
  rw [List.length_take, Nat.min_eq_left h2] at h
  have h3 : n = 0 := h
  omega
theorem dec_self (s : List UInt8) (hne : s ≠ []) (hill : illU (decL s).1 (decL s).2 = false) : decL (s.take (decL s).2) = decL s := by
  have hpos : 0 < s.length := List.length_pos_iff.2 hne
  have hw := dec_w s
  have hw2 := hw.2.2 hne
  have hi : ¬ ((decL s).1 = 65533 ∧ (decL s).2 = 1) := by
    rintro ⟨h1, h2⟩; unfold illU at hill; rw [h1, h2] at hill; exact absurd hill (by decide)
  have hg : ∀ j, j < (decL s).2 → (s.take (decL s).2).getD j 0 = s.getD j 0 := fun j hj => by
    rw [List.getD_eq_getElem?_getD, List.getElem?_take, if_pos hj, List.getD_eq_getElem?_getD]
  have hl : (s.take (decL s).2).length = (decL s).2 := by rw [List.length_take]; omega
  have key : decL (s.take (decL s).2) = Lib.decodeN (decL s).2 (s.getD 0 0).toNat ((s.take (decL s).2).getD 1 0).toNat ((s.take (decL s).2).getD 2 0).toNat ((s.take (decL s).2).getD 3 0).toNat := by
    show Lib.decodeN _ _ _ _ _ = _
    rw [hl, hg 0 (by omega)]
  rw [key]
  exact decN_trunc hpos (fun h => by rw [hg 1 h]) (fun h => by rw [hg 2 h]) (fun h => by rw [hg 3 h]) hi
/-- the head of a fine text, up to where a unit begins, is fine -/
theorem Bnd.fine {s : List UInt8} {p q : Int × Int} {n : Nat} (h : Bnd s p n q) : fineF s.length s → fineF n (s.take n) ∧ fineF (s.length - n) (s.drop n) := by
  induction h with
  | zero s p => intro hf; exact ⟨fine_nil _, by simpa using hf⟩
  | step s p n q hne h ih =>
    intro hf
    have hw := dec_w s
    have hw2 := hw.2.2 hne
    have hf' := hf
    rw [show s.length = (s.length - 1) + 1 by have := List.length_pos_iff.2 hne; omega, fine_cons hne] at hf'
    have hd : fineF (s.drop (decL s).2).length (s.drop (decL s).2) := fine_fuel _ _ _ (by rw [List.length_drop]; omega) (Nat.le_refl _) hf'.2
    obtain ⟨i1, i2⟩ := ih hd
    have hn := h.le
    rw [List.length_drop] at hn i2
    constructor
    · have e : s.take ((decL s).2 + n) = s.take (decL s).2 ++ (s.drop (decL s).2).take n := by rw [List.take_add]
      have hu : fineF (decL s).2 (s.take (decL s).2) := by
        have hne2 : s.take (decL s).2 ≠ [] := take_ne hw.1 hw2
        rw [show (decL s).2 = ((decL s).2 - 1) + 1 by omega, fine_cons (by rw [show (decL s).2 - 1 + 1 = (decL s).2 by omega]; exact hne2)]
        rw [show (decL s).2 - 1 + 1 = (decL s).2 by omega, dec_self s hne (bad_ill hf'.1)]
        exact ⟨hf'.1, by rw [List.drop_take, Nat.sub_self, List.take_zero]; exact fine_nil _⟩
      rw [e]
      refine fine_app _ _ _ _ (by rw [List.length_take]; omega) (by rw [List.length_append, List.length_take, List.length_take]; omega) hu ?_
      exact fine_fuel _ _ _ (by rw [List.length_take]; omega) (Nat.le_refl _) i1
    · rw [← List.drop_drop]
      rw [show s.length - ((decL s).2 + n) = s.length - (decL s).2 - n by omega]
      exact i2
theorem fine_one (c : UInt8) (h : c.toNat < 128) (hb : badU c.toNat 1 = false) : fineF 1 [c] := by
  rw [fine_cons (List.cons_ne_nil _ _), dec_ascii c [] h]
  exact ⟨hb, fine_nil _⟩
/-- fine, and no control at all -/
def plnF (s : List UInt8) : Prop := ∀ u ∈ unitsF s.length s (1, 1), illU u.rune u.wide = false ∧ ctlU u.rune = false
theorem may_pln {t : List UInt8} (h : mayN t = 0) : plnF t := by
  unfold mayN at h
  split at h
  · cases h
  · split at h
    · cases h
    · rename_i h2
      rw [Bool.not_eq_true, Bool.or_eq_false_iff] at h2
      intro u hu
      have h3 := List.any_eq_false.1 h2.1 u hu
      have h4 := List.any_eq_false.1 h2.2 u hu
      exact ⟨by simpa using h3, by simpa using h4⟩
theorem pln_fine {t : List UInt8} (h : plnF t) : fineF t.length t := fun u hu => by
  unfold badU
  rw [(h u hu).1, (h u hu).2]; rfl
theorem escQ_high : ∀ (l : List UInt8), (∀ c ∈ l, 128 ≤ c.toNat) → escQ l = l
  | [], _ => rfl
  | c :: t, h => by
    have e1 : escQ (c :: t) = escB c ++ escQ t := rfl
    have hc := h c (List.mem_cons_self ..)
    rw [e1, escQ_high t (fun d hd => h d (List.mem_cons_of_mem _ hd))]
    unfold escB
    rw [if_neg (by rintro (rfl | rfl) <;> exact absurd hc (by decide))]
    rfl
theorem esc_fine : ∀ (f : Nat) (t : List UInt8), t.length ≤ f → fineF f t → fineF (escQ t).length (escQ t)
  | 0, t, hf, _ => by
    have : t = [] := List.length_eq_zero_iff.1 (by omega)
    subst this; exact fine_nil _
  | f + 1, t, hf, h => by
    by_cases h0 : t = []
    · subst h0; exact fine_nil _
    rw [fine_cons h0] at h
    have hw := dec_w t
    have hw2 := hw.2.2 h0
    have ih := esc_fine f (t.drop (decL t).2) (drop_short hf) h.2
    have hsp : t = t.take (decL t).2 ++ t.drop (decL t).2 := (List.take_append_drop _ _).symm
    have he : escQ t = escQ (t.take (decL t).2) ++ escQ (t.drop (decL t).2) := by rw [← escQ_app, List.take_append_drop]
    rw [he]
    refine fine_app _ _ _ _ (Nat.le_refl _) (Nat.le_refl _) ?_ ih
    by_cases hr : (decL t).1 < 128
    · obtain ⟨a, u, rfl⟩ := List.exists_cons_of_ne_nil h0
      obtain ⟨e, h1⟩ := dec_low a u hr
      rw [e] at h ⊢
      show fineF (escQ [a]).length (escQ [a])
      have e2 : escQ [a] = escB a := by show escB a ++ [] = _; rw [List.append_nil]
      rw [e2]
      unfold escB
      split
      · exact fine_app 1 [92] [a] 2 (Nat.le_refl _) (Nat.le_refl _) (fine_one 92 (by decide) (by decide)) (fine_one a h1 h.1)
      · exact fine_one a h1 h.1
    · rw [escQ_high _ (dec_conts t (by omega) h0)]
      have hne2 : t.take (decL t).2 ≠ [] := take_ne hw.1 hw2
      have hl : (t.take (decL t).2).length = ((decL t).2 - 1) + 1 := by rw [List.length_take]; omega
      rw [hl, fine_cons hne2, dec_self t h0 (bad_ill h.1)]
      exact ⟨h.1, by rw [List.drop_take, Nat.sub_self, List.take_zero]; exact fine_nil _⟩
theorem quo_fine {t : List UInt8} (h : mayN t = 0) : fineF (quoL t).length (quoL t) := by
  have h1 := esc_fine _ _ (Nat.le_refl _) (pln_fine (may_pln h))
  have h2 : fineF (escQ t ++ [34]).length (escQ t ++ [34]) := fine_app _ _ _ _ (Nat.le_refl _) (Nat.le_refl _) h1 (fine_one 34 (by decide) (by decide))
  exact fine_app 1 [34] (escQ t ++ [34]) _ (Nat.le_refl _) (by unfold quoL; simp) (fine_one 34 (by decide) (by decide)) h2
theorem bl_fine : ∀ (b : List UInt8), (∀ c ∈ b, blankU c.toNat = true) → fineF b.length b
  | [], _ => fine_nil _
  | c :: t, h => by
    have hc := h c (List.mem_cons_self ..)
    refine fine_app 1 [c] t _ (Nat.le_refl _) (Nat.le_refl _) (fine_one c (blankU_low hc) ?_) (bl_fine t fun d hd => h d (List.mem_cons_of_mem _ hd))
    unfold badU
    rw [hc, Bool.not_true, Bool.and_false, Bool.or_false]
    unfold illU
    rw [Bool.and_eq_false_iff, beq_eq_false_iff_ne]
    have := blankU_low hc
    exact .inl (by omega)

/-! ### written anew -/
def joinB : List (List UInt8) → List TokD → List UInt8
  | b :: bs, t :: ts => b ++ (pieceT t.kind t.text ++ joinB bs ts)
  | _, _ => []
def bls (b : List UInt8) : Prop := ∀ c ∈ b, blankU c.toNat = true
theorem RefI.blanks {s : List UInt8} {V : ScanR} : ∀ (b : List UInt8) (i : Nat) (acc : List TokD) (q : Int × Int) (r : List UInt8), RefI s V i acc q → s.drop i = b ++ r → bls b → ∃ q', RefI s V (i + b.length) acc q'
  | [], i, acc, q, r, h, _, _ => ⟨q, h⟩
  | c :: b, i, acc, q, r, h, hd, hb => by
    have hlt : i < s.length := by
      rcases Nat.lt_or_ge i s.length with h1 | h1
      · exact h1
      · rw [List.drop_eq_nil_of_le h1] at hd; cases hd
    have h2 := List.drop_eq_getElem_cons hlt
    rw [hd] at h2
    obtain ⟨e1, e2⟩ := List.cons.inj h2
    obtain ⟨q', h3⟩ := h.blank hlt (by rw [← e1]; exact hb c (List.mem_cons_self ..))
    obtain ⟨q2, h4⟩ := RefI.blanks b (i + 1) acc q' r h3 e2.symm (fun d hd => hb d (List.mem_cons_of_mem _ hd))
    exact ⟨q2, by rw [List.length_cons, show i + (b.length + 1) = i + 1 + b.length by omega]; exact h4⟩
def KT (l : List TokD) : List (Int × List UInt8) := l.map fun t => (t.kind, t.text)
theorem chain_join {s : List UInt8} {n : Nat} {l : List TokD} (hc : Chain s n l) : ∀ (bs : List (List UInt8)), bs.length = l.length → (∀ b ∈ bs, bls b) → (∀ b ∈ bs.tail, b ≠ []) →
    ∀ (O : List UInt8) (V : ScanR) (i : Nat) (acc : List TokD) (q : Int × Int), O.drop i = joinB bs l → RefI O V i acc q → ∃ l', V = .good (acc ++ l') ∧ KT l' = KT l := by
  induction hc with
  | fin n q0 hn hb =>
    intro bs hl hbl hne O V i acc q hd hI
    obtain ⟨b, rfl⟩ : ∃ b, bs = [b] := by
      rcases bs with _ | ⟨b, _ | ⟨b', t⟩⟩
      · simp at hl
      · exact ⟨b, rfl⟩
      · simp at hl
    have hd2 : O.drop i = b ++ [] := by
      rw [hd]
      show b ++ (pieceT 0 [] ++ []) = _
      rfl
    obtain ⟨q', h2⟩ := RefI.blanks b i acc q [] hI hd2 (hbl b (List.mem_cons_self ..))
    have hlen := congrArg List.length hd2
    rw [List.length_drop, List.append_nil] at hlen
    have hk := hI.hk
    exact ⟨[endTok q'], h2.fin (by omega), rfl⟩
  | tok n k m t r hn hi hb ht hm hr ih =>
    intro bs hl hbl hne O V i acc q hd hI
    rcases bs with _ | ⟨b, bs⟩
    · simp at hl
    have hd2 : O.drop i = b ++ (pieceT t.kind t.text ++ joinB bs r) := hd
    obtain ⟨q', h2⟩ := RefI.blanks b i acc q _ hI hd2 (hbl b (List.mem_cons_self ..))
    have hd3 : O.drop (i + b.length) = pieceT t.kind t.text ++ joinB bs r := by
      rw [← List.drop_drop, hd2, List.drop_left]
    have hbl2 : BlL (joinB bs r) := by
      rcases bs with _ | ⟨b2, bs⟩
      · exact .inl rfl
      · rcases r with _ | ⟨t2, r⟩
        · exact .inl rfl
        · have h5 := hne b2 (List.mem_cons_self ..)
          obtain ⟨x, y, rfl⟩ := List.exists_cons_of_ne_nil h5
          exact .inr ⟨x, _, rfl, hbl (x :: y) (List.mem_cons_of_mem _ (List.mem_cons_self ..)) x (List.mem_cons_self ..)⟩
    have hne0 : s.drop k ≠ [] := by intro h0; have := congrArg List.length h0; rw [List.length_drop] at this; simp at this; omega
    have htk := tok_piece hne0 ht hbl2
    rw [← hd3] at htk
    have hlt : i + b.length < O.length := by
      rcases Nat.lt_or_ge (i + b.length) O.length with h1 | h1
      · exact h1
      · exfalso
        rw [List.drop_eq_nil_of_le h1] at htk
        have : tokR [] = .bad 7 := by kernel_rfl
        rw [this] at htk; cases htk
    have hdc := List.drop_eq_getElem_cons hlt
    have hnb : blankU O[i + b.length].toNat = false := by
      rw [hdc] at htk
      exact tok_nb htk
    obtain ⟨h1, q2, h3⟩ := h2.good hlt hnb htk
    have hd4 : O.drop (i + b.length + (pieceT t.kind t.text).length) = joinB bs r := by
      rw [← List.drop_drop, hd3, List.drop_left]
    obtain ⟨l', h4, h5⟩ := ih bs (by simpa using hl) (fun x hx => hbl x (List.mem_cons_of_mem _ hx)) (fun x hx => hne x (List.mem_of_mem_tail hx)) O V _ _ _ hd4 h3
    refine ⟨⟨t.kind, t.text, q'.1, q'.2⟩ :: l', by rw [h4, List.append_assoc]; rfl, ?_⟩
    show (t.kind, t.text) :: KT l' = (t.kind, t.text) :: KT r
    rw [h5]
/-- the end of a token is where a unit begins -/
theorem chain_fine {s : List UInt8} (hs : fineF s.length s) {n : Nat} {l : List TokD} (hc : Chain s n l) : ∀ (bs : List (List UInt8)), bs.length = l.length → (∀ b ∈ bs, bls b) → fineF (joinB bs l).length (joinB bs l) := by
  induction hc with
  | fin n q0 hn hb =>
    intro bs hl hbl
    obtain ⟨b, rfl⟩ : ∃ b, bs = [b] := by
      rcases bs with _ | ⟨b, _ | ⟨b', t⟩⟩
      · simp at hl
      · exact ⟨b, rfl⟩
      · simp at hl
    have e : joinB [b] [endTok q0] = b := by show b ++ (pieceT 0 [] ++ []) = b; unfold pieceT; simp
    rw [e]
    exact bl_fine b (hbl b (List.mem_cons_self ..))
  | tok n k m t r hn hi hb ht hm hr ih =>
    intro bs hl hbl
    rcases bs with _ | ⟨b, bs⟩
    · simp at hl
    have ih2 := ih bs (by simpa using hl) (fun x hx => hbl x (List.mem_cons_of_mem _ hx))
    have hb2 := bl_fine b (hbl b (List.mem_cons_self ..))
    have hne0 : s.drop k ≠ [] := by intro h0; have := congrArg List.length h0; rw [List.length_drop] at this; simp at this; omega
    have hp : fineF (pieceT t.kind t.text).length (pieceT t.kind t.text) := by
      by_cases h3 : t.kind = 3
      · have hmay : mayN t.text = 0 := by
          obtain ⟨c, u, hcu⟩ := List.exists_cons_of_ne_nil hne0
          rw [h3, hcu, tok_bytes] at ht
          split at ht
          · cases ht
          · split at ht
            · split at ht <;> cases ht
            · split at ht
              · exact textR_may ht
              · split at ht
                · cases ht
                · split at ht <;> cases ht
        unfold pieceT
        rw [if_pos h3]
        exact quo_fine hmay
      · unfold pieceT
        rw [if_neg h3]
        have htx := tok_text ht h3
        have hdf := (hb.fine hs).2
        rw [← List.length_drop] at hdf
        obtain ⟨c, u, hcu⟩ := List.exists_cons_of_ne_nil hne0
        have hl := ht
        rw [hcu] at hl
        obtain ⟨h1, d, hd, hd2⟩ := tok_last c u hl
        rw [← hcu] at hd
        obtain ⟨q', hq⟩ := bnd_low _ (s.drop k) (1, 1) m d (Nat.le_refl _) h1 hd hd2
        have h5 := (hq.fine hdf).1
        rw [← htx] at h5
        have hml := tok_n _ hne0 ht
        exact fine_fuel _ _ _ (by rw [htx, List.length_take]; omega) (Nat.le_refl _) h5
    refine fine_app _ _ _ _ (Nat.le_refl _) (Nat.le_refl _) hb2 ?_
    exact fine_app _ _ _ _ (Nat.le_refl _) (Nat.le_refl _) hp ih2
theorem scanL_good' {s : List UInt8} {l : List TokD} (h : scanL s = .good l) : fineF s.length s := by
  rw [← check_fine]
  unfold scanL at h
  split at h
  · cases h
  · split at h
    · assumption
    · cases h
theorem blanks_plain {s : List UInt8} {l : List TokD} (h : scanL s = .good l) (bs : List (List UInt8)) (hl : bs.length = l.length) (hbl : ∀ b ∈ bs, bls b) (hne : ∀ b ∈ bs.tail, b ≠ []) (hlen : (joinB bs l).length ≤ 1048576) :
    ∃ l', scanL (joinB bs l) = .good l' ∧ KT l' = KT l := by
  have hf := chain_fine (scanL_good' h) (scanL_chain h) bs hl hbl
  have hc := (check_fine _).2 hf
  have e : scanL (joinB bs l) = scanF (joinB bs l).length (joinB bs l) 0 (1, 1) [] := by
    unfold scanL
    rw [if_neg (by omega), hc]
  obtain ⟨l', h2, h3⟩ := chain_join (scanL_chain h) bs hl hbl hne (joinB bs l) (scanL (joinB bs l)) 0 [] (1, 1) rfl ⟨Nat.zero_le _, .zero _ _, e⟩
  exact ⟨l', by simpa using h2, h3⟩
end Go.Proofs.YtmifjfohanegiaaGreatDoor
