/-
  ParseAlone, of any source.
-/
import Derived.Test.YtjgjckipfkkgiaaGreatDoorBaseD
import Derived.WalkKit
import Derived.WalkSpells
import Derived.WalkLawsBesides
import Derived.ProofKit
import Derived.OpenShut
import Derived.SizedLaws
import Derived.Deep.CondSized
import Derived.Deep.Slices
import Derived.Lib.Hide
import Derived.Deep.RegionLaw
import Derived.Test.YtjgjckipfkkgiaaGreatDoorBaseC
import Derived.Test.YtjgjckipfkkgiaaGreatDoorHeldL
import Derived.Test.YtjgjckipfkkgiaaGreatDoorComA
import Derived.Test.YtjgjckipfkkgiaaGreatDoorParX
import Derived.Test.YtjgjckipfkkgiaaGreatDoorCmtM

namespace Go.Proofs.YtjgjckipfkkgiaaGreatDoor
set_option linter.unusedVariables false
open Go.ChangeShapes Go.WideShapes Go.ChangeAt Go.RowKit

/-! ### the frame of a law's proof -/

/-! ### flat data: cells that are determined by the data -/

/-! ### slices as lists of cells -/

/-! ### typed slices, and what a call owns -/

/-- the beginning of what a slice holds, as a slice of its own -/
theorem SlOf.pre {α : Type} {w : World} {en : α → List Value} {size : Nat} {a : Option Addr} {cap : Nat} {xs ys : List α} (h : SlOf w en size a cap (xs ++ ys)) (hen : ∀ x, (en x).length = size) : SlOf w en size a cap xs := by
  refine ⟨flatMap_length hen xs, ?_, h.max, h.nil, fun j hj => ?_⟩
  · have := h.le
    rw [List.length_append] at this
    omega
  · obtain ⟨b, o, e, h1⟩ := h.at' j (by rw [List.flatMap_append, List.length_append]; omega)
    refine ⟨b, o, e, ?_⟩
    rw [h1, List.flatMap_append, List.getElem?_append_left hj]

theorem SlOf.nil {α : Type} (w : World) (en : α → List Value) (size : Nat) : SlOf w en size none 0 [] := Sl.mk0 w size

end Go.Proofs.YtjgjckipfkkgiaaGreatDoor

namespace Go.Proofs.YtjgjckipfkkgiaaGreatDoor
set_option linter.unusedVariables false
open Go.RowKit

section
variable {α : Type} {rd : World → α → List Value → Prop} {size : Nat} {a : Option Addr} {cap : Nat} {xs : List α} {w w' : World}

theorem SlRd.le (h : SlRd w rd size a cap xs) : xs.length ≤ cap := by
  obtain ⟨rows, h1, h2⟩ := h
  have := h2.len
  have := h1.len.1
  omega
theorem SlRd.nil (w : World) (rd : World → α → List Value → Prop) (size : Nat) : SlRd w rd size none 0 ([] : List α) := ⟨[], SlOf.nil w Row.en size, .nil⟩
variable {base : Nat} {e : TypeId} {v : Value}
end

end Go.Proofs.YtjgjckipfkkgiaaGreatDoor

namespace Go.Proofs.YtjgjckipfkkgiaaGreatDoor
set_option linter.unusedVariables false
set_option linter.unusedSimpArgs false
open Go.RowKit Go.Shelf

theorem bd_fit {d : DbD} {n : Nat} (h : DbBd d n) (hn : n ≤ 4000000) : DbFit d := by
  have htl := h.tln
  have hml := h.mln
  refine ⟨by have := h.nam; omega, by omega, fun m hm => ?_, by omega, fun t ht => by have := h.tab t ht; omega⟩
  obtain ⟨h1, h2⟩ := h.msg m hm
  refine ⟨by omega, fun s hs => ?_⟩
  have := h2 s hs
  omega
theorem OwnRd.weak {α : Type} {rd rd' : World → α → List Value → Prop} {w : World} {base : Nat} {e : TypeId} {size : Nat} {v : Value} {xs : List α} (h : OwnRd w base e rd size v xs) (hm : ∀ x cs, rd w x cs → rd' w x cs) : OwnRd w base e rd' size v xs := by
  obtain ⟨rows, h1, h2⟩ := h
  exact ⟨rows, h1, h2.mono fun x r hr => hm x _ hr⟩
/-- a list of parts written: List and File of a document that is fine -/
theorem fdSigN_fd {B : Nat} {w : World} {x : SigX} {l : List Value} (h : fdSigN B w x l) : fdSig w x l := by
  obtain ⟨v, e, ho⟩ := h
  exact ⟨v, e, ho.fromBase (Nat.zero_le _)⟩
theorem fdMsgN_fd {B : Nat} {w : World} {x : MsgD} {l : List Value} (h : fdMsgN B w x l) : fdMsg w x l := by
  obtain ⟨v, e, ho⟩ := h
  exact ⟨v, e, (ho.fromBase (Nat.zero_le _)).weak fun _ _ => fdSigN_fd⟩
theorem fdTabN_fd {B : Nat} {w : World} {x : TabD} {l : List Value} (h : fdTabN B w x l) : fdTab w x l := by
  obtain ⟨v, e, ho⟩ := h
  exact ⟨v, e, ho.fromBase (Nat.zero_le _)⟩
theorem fdDbN_fd {B : Nat} {w : World} {x : DbD} {l : List Value} (h : fdDbN B w x l) : fdDb w x l := by
  obtain ⟨u, v, z, e, h1, h2, h3⟩ := h
  exact ⟨u, v, z, e, h1.fromBase (Nat.zero_le _), (h2.fromBase (Nat.zero_le _)).weak fun _ _ => fdMsgN_fd, (h3.fromBase (Nat.zero_le _)).weak fun _ _ => fdTabN_fd⟩
theorem str_cat (A B : List UInt8) : (⟨A.toArray⟩ : ByteArray) ++ ⟨B.toArray⟩ = ⟨(A ++ B).toArray⟩ := by
  apply ByteArray.ext
  simp
end Go.Proofs.YtjgjckipfkkgiaaGreatDoor

namespace Go.Proofs.YtjgjckipfkkgiaaGreatDoor
set_option linter.unusedVariables false
set_option linter.unusedSimpArgs false
open Go.RowKit Go.Shelf

theorem Bnd.sub {s : List UInt8} {p q : Int × Int} {i : Nat} (h : Bnd s p i q) : ∀ {j : Nat} {r : Int × Int}, Bnd s p j r → i ≤ j → Bnd (s.drop i) q (j - i) r := by
  induction h with
  | zero s p => intro j r h2 hij; exact h2
  | step s p n q hne h ih =>
    intro j r h2 hij
    have hw := (dec_w s).1
    cases h2 with
    | zero => omega
    | step _ _ m _ _ h3 =>
      have h4 := ih h3 (by omega)
      rw [List.drop_drop] at h4
      rw [show (decL s).2 + m - ((decL s).2 + n) = m - n by omega]
      exact h4
theorem ItR.first {α : Type} {w : List UInt8} {p : List TokD → PR α} {ts r : List TokD} {ms : List α} {ns : List Nat} (h : ItR w p ts ms r ns) (l : List Nat) : (ns ++ r.length :: l)[0]? = some ts.length := by
  cases h with
  | stop h => rfl
  | go h h1 h2 h3 => rfl
theorem ItR.get {α : Type} {R : α → α → Prop} {w : List UInt8} {p : List TokD → PR α} (hp : Takes p) (hf : Fr R p p) {ts r : List TokD} {ms : List α} {ns : List Nat} (h : ItR w p ts ms r ns) (l : List Nat) : TsB ts → ∀ i (hi : i < ms.length),
    ∃ X t Y, X <:+ ts ∧ TsB X ∧ (ns ++ r.length :: l)[i]? = some X.length ∧ (ns ++ r.length :: l)[i + 1]? = some Y.length ∧ seesB w X = true ∧ p X = .ok ms[i] t ∧ commentsR t = .ok () Y := by
  induction h with
  | stop h => intro _ i hi; simp at hi
  | @go ts t t2 r m ms ns h h1 h2 h3 ih =>
    intro hb i hi
    obtain ⟨b1, l1⟩ := hp _ _ _ h1 hb
    obtain ⟨b2, l2⟩ := comm_keeps _ _ _ h2 b1
    cases i with
    | zero => exact ⟨ts, t, t2, List.suffix_refl _, hb, rfl, h3.first l, h, h1, h2⟩
    | succ i =>
      obtain ⟨X, t', Y, e1, e2, e3, e4, e5, e6, e7⟩ := ih b2 i (by simpa using hi)
      exact ⟨X, t', Y, e1.trans ((comm_suf b1 h2).trans (fr_suf hf hb h1)), e2, e3, e4, e5, by simpa using e6, e7⟩
/-- the i-th message's index among the parts -/
def msgK (d : DbD) (i : Nat) : Nat := (if d.has then 1 else 0) + 1 + i
theorem run_msg {T : List TokD} {d : DbD} {hs : List Nat} (h : DbRun T d hs) (hb : TsB T) (i : Nat) (hi : i < d.msgs.length) :
    ∃ X t Y, X <:+ T ∧ TsB X ∧ hs[msgK d i]? = some X.length ∧ hs[msgK d i + 1]? = some Y.length ∧ seesB [66, 79, 95] X = true ∧ messageR X = .ok d.msgs[i] t ∧ commentsR t = .ok () Y := by
  obtain ⟨T1, T2, t3, T4, T5, T6, n1, n2, s, e1, hv, e3, e4, i1, i2, i3, hk, hst, rfl⟩ := h
  obtain ⟨b1, -⟩ := comm_keeps _ _ _ e1 hb
  have s1 := comm_suf hb e1
  have hT2 : TsB T2 ∧ T2 <:+ T := by
    rcases hv with ⟨h0, v, t, g1, g2, g3, g4⟩ | ⟨h0, rfl, g3, g4⟩
    · obtain ⟨b2, -⟩ := fr_ver.keep _ _ _ g1 b1
      obtain ⟨b3, -⟩ := comm_keeps _ _ _ g2 b2
      exact ⟨b3, ((comm_suf b2 g2).trans (fr_suf fr_ver b1 g1)).trans s1⟩
    · exact ⟨b1, s1⟩
  obtain ⟨b2, s2⟩ := hT2
  obtain ⟨b3, -⟩ := fr_sta.keep _ _ _ e3 b2
  obtain ⟨b4, -⟩ := comm_keeps _ _ _ e4 b3
  have s4 := ((comm_suf b3 e4).trans (fr_suf fr_sta b2 e3)).trans s2
  obtain ⟨b5, -⟩ := i1.facts message_takes b4
  have e5 : (n2 ++ [T6.length])[0]? = some T5.length := i3.first []
  obtain ⟨l, hl⟩ : ∃ l, n2 ++ [T6.length] = T5.length :: l := by
    cases hn : n2 ++ [T6.length] with
    | nil => simp at hn
    | cons x l =>
      rw [hn] at e5
      exact ⟨l, by rw [Option.some.inj e5]⟩
  obtain ⟨X, t, Y, a1, a2, a3, a4, a5, a6, a7⟩ := i1.get message_takes fr_message l b4 i hi
  have key : ∀ j, ((if d.has = true then [T1.length] else []) ++ T2.length :: (n1 ++ n2 ++ [T6.length]))[(if d.has = true then 1 else 0) + 1 + j]? = (n1 ++ T5.length :: l)[j]? := fun j => by
    rw [List.append_assoc, hl]
    cases d.has
    · rw [if_neg (by decide), if_neg (by decide), List.nil_append, show 0 + 1 + j = j + 1 by omega, List.getElem?_cons_succ]
    · rw [if_pos rfl, if_pos rfl, List.singleton_append, show 1 + 1 + j = j + 1 + 1 by omega, List.getElem?_cons_succ, List.getElem?_cons_succ]
  refine ⟨X, t, Y, a1.trans s4, a2, ?_, ?_, a5, a6, a7⟩
  · unfold msgK
    rw [key]
    exact a3
  · unfold msgK
    rw [Nat.add_assoc _ i 1, key]
    exact a4
theorem suf_len {T X B : List TokD} (h : X <:+ T) (A : List TokD) (hT : T = A ++ B) (hl : X.length = B.length) : X = B ∧ T = A ++ X := by
  obtain ⟨A2, h2⟩ := h
  have h3 : A2 ++ X = A ++ B := by rw [h2, hT]
  have h4 : A2.length = A.length := by have := congrArg List.length h3; simp only [List.length_append] at this; omega
  obtain ⟨h5, h6⟩ := List.append_inj h3 h4
  exact ⟨h6, by rw [hT, h6]⟩
def buL : List UInt8 := [66, 85, 95, 32, 58, 10]
theorem bu_scan : scanL [66, 85, 95, 32, 58] = .good ([⟨1, [66, 85, 95], 1, 1⟩, ⟨4, [58], 1, 5⟩] ++ [⟨0, [], 1, 6⟩]) := by kernel_rfl
/-- the parser at stations without names, then one message -/
theorem one_run {T' A' : List TokD} {b c e : TokD} {m' : MsgD} {t' : List TokD} (hT : T' = [b, c] ++ (A' ++ [e])) (hb : ekT b = (1, [66, 85, 95])) (hc : ekT c = (4, [58])) (he : e.kind = 0) (hs : seesB [66, 79, 95] (A' ++ [e]) = true) (hm : messageR (A' ++ [e]) = .ok m' t') (hcm : commentsR t' = .ok () [e]) :
    DbRun T' ⟨false, ⟨0, 0, []⟩, ⟨b.line, b.col, []⟩, [m'], []⟩ [T'.length, (A' ++ [e]).length, 1] := by
  subst hT
  obtain ⟨k1, x1, L1, C1⟩ := b
  obtain ⟨k2, x2, L2, C2⟩ := c
  obtain ⟨rfl, rfl⟩ : k1 = 1 ∧ x1 = [66, 85, 95] := ⟨congrArg Prod.fst hb, congrArg Prod.snd hb⟩
  obtain ⟨rfl, rfl⟩ : k2 = 4 ∧ x2 = [58] := ⟨congrArg Prod.fst hc, congrArg Prod.snd hc⟩
  obtain ⟨hd1, hd2, hd3⟩ := sees_head hs (by decide)
  have nocomm : ∀ (ts : List TokD), seesB [67, 77, 95] ts = false → commentsR ts = .ok () ts := fun ts h => by
    unfold commentsR
    cases ts with
    | nil => rfl
    | cons a l => rw [List.length_cons, commF_succ, if_neg (by rw [h]; decide)]
  have other : ∀ (w : List UInt8), w ≠ [66, 79, 95] → seesB w (A' ++ [e]) = false := fun w hw => by
    unfold seesB
    rw [hd1, decide_eq_false (fun h => hw h.symm)]
    rfl
  refine ⟨_, _, A' ++ [e], A' ++ [e], [e], [e], [(A' ++ [e]).length], [], (⟨1, [66, 85, 95], L1, C1⟩, []), nocomm _ (by rfl), .inr ⟨by rfl, rfl, rfl, rfl⟩, ?_, nocomm _ (other _ (by decide)), .go hs hm hcm (.stop ?_), (by decide : (1 : Nat) ≤ 512), .stop ?_, he, rfl, rfl⟩
  · show ((PR.ok (⟨1, [66, 85, 95], L1, C1⟩ : TokD) ((⟨4, [58], L2, C2⟩ : TokD) :: (A' ++ [e]))).bind fun t ts => (mustR [58] ts).bind fun _ ts => (namsF ts.length [] ts).bind fun ns ts => .ok (t, ns) ts) = _
    rw [PR.bind_ok]
    show ((PR.ok (⟨4, [58], L2, C2⟩ : TokD) (A' ++ [e])).bind fun _ ts => (namsF ts.length [] ts).bind fun ns ts => .ok ((⟨1, [66, 85, 95], L1, C1⟩ : TokD), ns) ts) = _
    rw [PR.bind_ok]
    have hn : namedB (A' ++ [e]) = false := by
      unfold namedB
      rw [hd1, show decide (([66, 79, 95] : List UInt8) ∈ sixW) = true by decide]
      rfl
    have h2 : namsF (A' ++ [e]).length [] (A' ++ [e]) = .ok [] (A' ++ [e]) := by
      rw [show (A' ++ [e]).length = A'.length + 1 by simp]
      show (if namedB (A' ++ [e]) then _ else _) = _
      rw [hn]; rfl
    rw [h2, PR.bind_ok]
  · unfold seesB
    show (_ && (e.kind == 1 || e.kind == 4)) = false
    rw [he]; simp
  · unfold seesB
    show (_ && (e.kind == 1 || e.kind == 4)) = false
    rw [he]; simp
/-- what is known of the message's own text -/
structure Alone (s : List UInt8) (d : DbD) (i : Nat) (hi : i < d.msgs.length) (N M : Nat) : Prop where
  le : N ≤ M
  lt : M ≤ s.length
  out : ∃ (m' : MsgD) (L C : Int), zMsg m' = zMsg d.msgs[i] ∧ DbBd ⟨false, ⟨0, 0, []⟩, ⟨L, C, []⟩, [m'], []⟩ 1048577 ∧ fileR (buL ++ (s.drop N).take (M - N)) = .good (nodsD ⟨false, ⟨0, 0, []⟩, ⟨L, C, []⟩, [m'], []⟩)
theorem alone_plain {s : List UInt8} {T : List TokD} {d : DbD} {r : List TokD} (hw : scanL s = .good T) (hd : dbR T = .ok d r) (hlen : s.length ≤ 524288) (i : Nat) (hi : i < d.msgs.length) :
    ∃ N M, (∀ h : msgK d i < (nodsD d).length, N < s.length ∧ Bnd s (1, 1) N ((headM (nodsD d)[msgK d i]).2.1, (headM (nodsD d)[msgK d i]).2.2)) ∧ (∀ h : msgK d i + 1 < (nodsD d).length, M < s.length ∧ Bnd s (1, 1) M ((headM (nodsD d)[msgK d i + 1]).2.1, (headM (nodsD d)[msgK d i + 1]).2.2)) ∧ (msgK d i + 1 = (nodsD d).length → M = s.length) ∧ msgK d i < (nodsD d).length ∧ Alone s d i hi N M := by
  have hb := scanL_toks hw
  obtain ⟨hs, hr⟩ := db_run hd hb
  have hk : msgK d i + 1 ≤ (nodsD d).length := by
    unfold nodsD msgK
    cases d.has <;> simp <;> omega
  obtain ⟨X, t, Y, x1, x2, x3, x4, x5, x6, x7⟩ := run_msg hr hb i hi
  obtain ⟨A, B, N, a1, a2, a3, a4, a5, a6, a7, -⟩ := part_at hw hr (msgK d i) (by omega)
  obtain ⟨A2, B2, M, b1, b2, b3, b4, b5, b6, b7, b8⟩ := part_at hw hr (msgK d i + 1) hk
  obtain ⟨rfl, hTX⟩ := suf_len x1 A a1 (Option.some.inj (x3.symm.trans a5))
  obtain ⟨bt, lt1⟩ := message_takes _ _ _ x6 x2
  have hYt := comm_suf bt x7
  have htX := fr_suf fr_message x2 x6
  obtain ⟨rfl, hTY⟩ := suf_len (hYt.trans (htX.trans x1)) A2 b1 (Option.some.inj (x4.symm.trans b5))
  obtain ⟨P, hP⟩ := hYt.trans htX
  have hYl := hYt.length_le
  refine ⟨N, M, fun h => ⟨(a7 h).1, by rw [← (a7 h).2]; exact a6⟩, fun h => ⟨(b7 h).1, by rw [← (b7 h).2]; exact b6⟩, b8, by omega, ?_⟩
  -- the walk of the new source
  obtain ⟨hs0, -⟩ := ref_good hw
  obtain ⟨hc0, -⟩ := ref_good bu_scan
  have hNs := a6.le
  have hMs := b6.le
  have hTT : T = A ++ (P ++ Y) := by rw [hTX, hP]
  obtain ⟨-, q1, -, -, h1, -, -⟩ := walk_front hw a2 a6 (r := []) (.inl rfl) (O := s.take N) (W := scanF (s.take N).length (s.take N) 0 (1, 1) []) (N - 0) 0 [] (1, 1) A 0 [] (1, 1) (Nat.le_refl _) hs0 (by rw [hTX]; rfl) ⟨Nat.zero_le _, .zero _ _, rfl⟩ (by simp)
  rw [List.nil_append] at h1
  have hNM : N ≤ M := by
    obtain ⟨R, e1, e2⟩ := RefI.chain hw _ N A q1 (Nat.le_refl _) h1
    rw [hTT] at e1
    have := chain_low e2 P Y (List.append_cancel_left e1).symm b2 M b6
    omega
  obtain ⟨Z, hZ⟩ : ∃ Z, Z = (s.drop N).take (M - N) := ⟨_, rfl⟩
  have hZl : Z.length = M - N := by rw [hZ, List.length_take, List.length_drop]; omega
  have hfs := scanL_good' hw
  have hfZ : fineF Z.length Z := by
    have f1 := (a6.fine hfs).2
    rw [← List.length_drop] at f1
    have f2 := ((a6.sub b6 hNM).fine f1).1
    rw [hZl, hZ]
    exact f2
  have hf : fineF (buL ++ Z).length (buL ++ Z) := fine_app _ _ _ _ (Nat.le_refl _) (Nat.le_refl _) ((check_fine buL).1 (by kernel_rfl)) hfZ
  have hO0 := ref_start (O := buL ++ Z) (by rw [List.length_append, hZl]; show 6 + _ ≤ _; omega) hf
  obtain ⟨O, hO⟩ : ∃ O, O = buL ++ Z := ⟨_, rfl⟩
  rw [← hO] at hO0
  obtain ⟨C', q2, p2, -, -, h2, h3⟩ := walk_front bu_scan (List.cons_ne_nil _ []) (N := 5) (chain_last (scanL_chain bu_scan) _ _ rfl) (r := 10 :: Z) (.inr ⟨10, Z, rfl, by decide⟩) 5 0 [] (1, 1) [⟨1, [66, 85, 95], 1, 1⟩, ⟨4, [58], 1, 5⟩] 0 [] (1, 1) (Nat.le_refl _) hc0 rfl hO0 (by rw [hO]; rfl)
  have hd2 : O.drop 5 = 10 :: Z := by rw [hO]; rfl
  obtain ⟨hj, e1, e2⟩ := drop_head hd2
  rw [List.nil_append] at h2
  obtain ⟨p3, h4⟩ := RefI.blank (i := 5) h2 hj (by rw [e1]; decide)
  obtain ⟨P', q4, p4, -, -, h5, h6⟩ := walk_front hw b2 b6 (r := []) (.inl rfl) (M - N) N A q1 P 6 C' p3 (Nat.le_refl _) h1 hTT h4 (by rw [e2, List.append_nil, hZ])
  have h7 := h5.fin (by rw [hO, List.length_append, hZl]; rfl)
  obtain ⟨b, l1, rfl, hb1, h8⟩ := h3.cons
  obtain ⟨c, l2, rfl, hc1, h9⟩ := h8.cons
  have := h9.nil
  subst this
  -- the parser
  have hbX : TsB (P ++ Y) := by rw [hP]; exact x2
  have hmsg := x6
  rw [← hP] at hmsg x5
  have hDk : (endTok p4).kind = 0 := rfl
  obtain ⟨k, m', k1, k2, k3, k4⟩ := fr_message.fr P P' Y [endTok p4] _ _ h6 b3 ⟨by simp, .inl rfl⟩ hbX hmsg hYl
  have hP0 : P ≠ [] := by
    intro h0
    subst h0
    rw [List.nil_append] at hP
    subst hP
    omega
  have hsees : seesB [66, 79, 95] (P' ++ [endTok p4]) = true := by
    cases P with
    | nil => exact absurd rfl hP0
    | cons a l =>
      obtain ⟨a', l', rfl, he, -⟩ := h6.cons
      have h10 := x5
      rw [List.cons_append] at h10
      rw [List.cons_append, ← sees_same he]
      exact h10
  have hcm : commentsR (P'.drop k ++ [endTok p4]) = .ok () [endTok p4] := by
    have hcf : commF t.length t = .ok () Y := x7
    rw [k2] at hcf
    obtain ⟨k', g1, g2, g3⟩ := comm_pre Y [endTok p4] [endTok p4] b4 (fun f hf => by
      cases f with
      | zero => rfl
      | succ f => rw [commF_succ, if_neg (show ¬ seesB [67, 77, 95] [endTok p4] = true from by unfold seesB; show ¬ (_ && ((endTok p4).kind == 1 || (endTok p4).kind == 4)) = true; rw [hDk]; simp)]) _ (P'.drop k ++ [endTok p4]).length (P.drop k) (P'.drop k) Y (h6.drop k) hcf (Nat.le_refl _) (Nat.le_refl _) (Nat.le_refl _)
    have g4 := congrArg List.length g2
    simp only [List.length_append, List.length_drop] at g4 g1
    show commF _ _ = _
    rw [g3, if_pos (by rw [List.length_drop]; omega)]
  have hT' : [b, c] ++ P' ++ [endTok p4] = [b, c] ++ (P' ++ [endTok p4]) := List.append_assoc _ _ _
  have hrun := one_run hT' hb1.symm hc1.symm hDk hsees k3 hcm
  obtain ⟨r', j3⟩ := db_of hrun (scanL_toks h7)
  obtain ⟨j4, j5, j6⟩ := file_of h7 j3
  exact ⟨hNM, hMs, m', b.line, b.col, k4.symm, j4, by rw [← hZ, ← hO]; exact j6⟩
end Go.Proofs.YtjgjckipfkkgiaaGreatDoor

namespace Go.Proofs.YtjgjckipfkkgiaaGreatDoor
set_option linter.unusedVariables false
set_option linter.unusedSimpArgs false
open Go.RowKit Go.Shelf

/-- one element's slice -/
theorem SlRd.mid {α : Type} {rd : World → α → List Value → Prop} {w : World} {size b o cap : Nat} {xs : List α} (h : SlRd w rd size (some ⟨b, o, none⟩) cap xs) (i : Nat) (hi : i < xs.length) : SlRd w rd size (some ⟨b, o + i * size, none⟩) (cap - i) [xs[i]] := by
  obtain ⟨rows, h1, h2⟩ := h
  have hl := h2.len
  have hir : i < rows.length := by omega
  have h3 := SlOf.sufT h1 Row.en_len i (by omega)
  rw [List.drop_eq_getElem_cons hir] at h3
  exact ⟨[rows[i]], SlOf.pre (xs := [rows[i]]) (ys := rows.drop (i + 1)) h3 Row.en_len, .cons (h2.get hi hir) .nil⟩
theorem nods_lenA (d : DbD) : (nodsD d).length = (if d.has then 1 else 0) + 1 + (d.msgs.length + d.tabs.length) := by
  unfold nodsD
  cases d.has <;> simp <;> omega
theorem cut_mid (s : List UInt8) (N M : Nat) (h : N ≤ M) : (⟨s.toArray⟩ : ByteArray).extract N M = ⟨((s.drop N).take (M - N)).toArray⟩ := by
  have := ext_mid6 s N (M - N)
  rwa [Nat.add_sub_cancel' h] at this
/-- a load behind a test that was met -/
theorem wpQuiet_loadRGa {P : Program} {ops : Array Oper} {C : World → Prop} {Q : Act → Prop} {rest : List Oper} {o : Oper} {a : Act} {k off : Nat} {cs : List Value} (hS : ∀ w, C w → w.rangeAt k off cs) (ty : TypeId) (x : Operand) {d : TypeDesc}
    (hu : P.underlying ty = some d) (hi : (P.info? ty).map (·.size) = some cs.length)
    (h : wpQuiet P ops C Q rest (a.put o.dst (.agg cs.toArray)))
    (hgd : Region.wanted o (yielded ops a.tmps) = true := by rfl) (ho : o.op = .load ty x := by rfl) (hx : a.eval x = .pointer (some ⟨k, off, none⟩) := by rfl) (hd : d.isRow = true := by rfl) : wpQuiet P ops C Q (o :: rest) a := by
  unfold wpQuiet
  rw [if_pos hgd]
  refine ⟨_, fun w hw => ?_, h⟩
  unfold Oper.quietAt execOp
  simp only [ho, hx, Instr.loadAt, Instr.sureAddr, Sem.run_bind, Sem.run_pure, Result.andThen_ok, run_loadVar_mid (P := P) w k off ty cs d (hS w hw) hu hd hi]
  exact ⟨rfl, rfl⟩
/-- a database with one message alone -/
def oneD (m : MsgD) : DbD := ⟨false, ⟨0, 0, []⟩, ⟨0, 0, []⟩, [m], []⟩

set_option maxRecDepth 100000 in
set_option maxHeartbeats 8000000 in
theorem parsealone_bad (s : List UInt8) (a : Int)
    (cR : ∀ w, FileW w → Calls Tryz.prog 6 #[.string ⟨s.toArray⟩] w fun e w' => e = .returned (.tuple #[.agg zeroDb, .bool false]) ∧ Below w.heap.size w w') (w : World) (hW : FileW w) :
    Calls Tryz.prog 4 #[.string ⟨s.toArray⟩, .int .i64 a] w fun e w' => e = .returned (.bool true) ∧ Below w.heap.size w w' := by
  have HW := Lib.hid hW
  clear hW
  go_enter Tryz.func4, Tryz.ntmps4
  go_wp2_with fail
  with_reducible refine (cR _ HW.out).mono ?_
  rintro e w1 ⟨rfl, hb⟩
  replace HW := Lib.hid (HW.out.keep hb)
  have HB := Lib.hid hb
  clear hb cR
  go_upto_region 2 with (refine wpList_newS (Z := zeroDb) (cs := zeroDb) 32 (.tmp 5) (.tmp 20) db_zero rfl zeroDb_one ?_)
  have hba := (Below.refl w1.heap.size w1).alloc (Nat.le_refl _) (.cells zeroDb 32)
  replace HW := Lib.hid (HW.out.keep hba)
  replace HB := Lib.hid (bstep HB.out hba (Nat.le_refl _))
  generalize w1.alloc (.cells zeroDb 32) = w2 at *
  clear hba
  go_wp2_with fail
  with_reducible refine (works6_any _ HW.out).mono ?_
  rintro e w3 ⟨rfl, hb⟩
  replace HW := Lib.hid (HW.out.keep hb)
  replace HB := Lib.hid (bstep HB.out hb (Nat.le_refl _))
  clear hb
  go_wp2_with fail
  with_reducible refine (works6_any _ HW.out).mono ?_
  rintro e w4 ⟨rfl, hb⟩
  replace HB := Lib.hid (bstep HB.out hb (Nat.le_refl _))
  clear hb HW
  go_wp2_with fail
  go_ret
  exact ⟨rfl, HB.out⟩

set_option maxRecDepth 100000 in
set_option maxHeartbeats 8000000 in
theorem parsealone_good (s : List UInt8) (hs : s.length ≤ 1048576) (a : Int) (ha : -9223372036854775808 ≤ a ∧ a ≤ 9223372036854775807) (d : DbD) (hd : DbBd d 1048577) (hv : VerOK d) (hf : fileR s = .good (nodsD d))
    (hpl : s.length ≤ 524288 → ∀ i (hi : i < d.msgs.length), ∃ N M, (∀ h : msgK d i < (nodsD d).length, N < s.length ∧ Bnd s (1, 1) N ((headM (nodsD d)[msgK d i]).2.1, (headM (nodsD d)[msgK d i]).2.2)) ∧ (∀ h : msgK d i + 1 < (nodsD d).length, M < s.length ∧ Bnd s (1, 1) M ((headM (nodsD d)[msgK d i + 1]).2.1, (headM (nodsD d)[msgK d i + 1]).2.2)) ∧ (msgK d i + 1 = (nodsD d).length → M = s.length) ∧ msgK d i < (nodsD d).length ∧ Alone s d i hi N M) (w : World) (hW : FileW w) :
    Calls Tryz.prog 4 #[.string ⟨s.toArray⟩, .int .i64 a] w fun e w' => e = .returned (.bool true) ∧ Below w.heap.size w w' := by
  have hml := hd.mln
  have htl := hd.tln
  obtain ⟨L, hL⟩ : ∃ L, L = (nodsD d).length := ⟨_, rfl⟩
  have hLn := nods_lenA d
  rw [← hL] at hLn
  have hLb : L ≤ 2000000 := by have := nods_len6 hd; omega
  have HMB := Lib.hid hd.msg
  have cR := read6_good s (by omega) d hd hv hf
  have cP := fun (W : World) C hC => parts6_any d (by omega) (by omega) C W hC
  have cA := Lib.hid (fun (W : World) (n : Nat) (hn : n < s.length) (L C : Int) (hb : Bnd s (1, 1) n (L, C)) => byteAt6_any s (by omega) n hn L C hb W)
  have cK := fun (h0 : 0 < d.msgs.length) (W : World) => pick_fn a ha d.msgs.length h0 (by omega) W
  have HPL := Lib.hid hpl
  have HL := Lib.hid hL
  have HW := Lib.hid hW
  clear hd hv hf hpl hW hL
  go_enter Tryz.func4, Tryz.ntmps4
  go_wp2_with fail
  with_reducible refine (cR _ HW.out).mono ?_
  rintro e w1 ⟨C, rfl, hC, hb⟩
  obtain ⟨hC9, hC1⟩ := fdDb_shape (b := 0) hC
  replace HW := Lib.hid (HW.out.keep hb)
  have HB := Lib.hid hb
  have hba := (Below.refl w1.heap.size w1).alloc (Nat.le_refl _) (.cells C 32)
  have HCC := Lib.hid (fd_db (last_fdDb _ _ _ _ hC hba))
  have hbk := Blk.new w1 C 32
  replace HW := Lib.hid (HW.out.keep hba)
  replace HB := Lib.hid (bstep HB.out hba (Nat.le_refl _))
  have hu := Tryz.underlying32
  clear hC hb cR hba
  go_upto_region 2 with (refine wpList_newS (Z := zeroDb) (cs := C) 32 (.tmp 5) (.tmp 20) (by rw [hC9]; exact db_zero) (by rw [hC9]; rfl) hC1 ?_)
  generalize w1.alloc (.cells C 32) = w2 at *
  generalize w1.heap.size = k5 at *
  clear hC1
  go_wp2_with fail
  with_reducible refine (works6_any _ HW.out).mono ?_
  rintro e w3 ⟨rfl, hb⟩
  replace HW := Lib.hid (HW.out.keep hb)
  replace HB := Lib.hid (bstep HB.out hb (Nat.le_refl _))
  replace HCC := Lib.hid (last_rdDb _ _ _ _ HCC.out hb)
  replace hbk := hbk.keep hb (Nat.le_refl _)
  clear hb
  obtain ⟨pa, pn, pb, pm, pc, pt, eC, -, hM, -⟩ := HCC.out
  have f7 := hbk.cell 7 (.slice pb d.msgs.length pm) (by rw [Array.toList_inj.1 eC]; rfl)
  have f8 := hbk.cell 8 (.slice pc d.tabs.length pt) (by rw [Array.toList_inj.1 eC]; rfl)
  have HEC := Lib.hid eC
  have HM := Lib.hid hM
  have HBK := Lib.hid hbk
  clear eC hM hbk
  obtain ⟨nm, hnm⟩ : ∃ nm, nm = d.msgs.length := ⟨_, rfl⟩
  obtain ⟨nt, hnt⟩ : ∃ nt, nt = d.tabs.length := ⟨_, rfl⟩
  rw [← hnm] at f7 cK
  rw [← hnt] at f8
  rw [← hnm, ← hnt] at hLn
  have hnm2 : nm ≤ 512 := by omega
  have hnt2 : nt ≤ 1048577 := by omega
  have HNM := Lib.hid hnm
  have HLN1 := Lib.hid hLn
  clear hnt hml htl hnm hLn
  by_cases h0 : nm = 0 ∨ 524288 < s.length
  · clear f8 HBK HCC HM HPL cA cK cP
    by_cases h1 : nm = 0
    · rw [h1] at f7
      go_wp2_with fail
      with_reducible refine (works6_any _ HW.out).mono ?_
      rintro e w4 ⟨rfl, hb⟩
      replace HB := Lib.hid (bstep HB.out hb (Nat.le_refl _))
      clear hb HW
      go_wp2_with fail
      go_ret
      exact ⟨rfl, HB.out⟩
    · have h2 : 524288 < s.length := by omega
      have b1 : ((nm : Int) == 0) = false := by simp; omega
      have b2 : decide (524288 < (s.length : Int)) = true := decide_eq_true (by omega)
      go_wp2_with fail
      with_reducible refine (works6_any _ HW.out).mono ?_
      rintro e w4 ⟨rfl, hb⟩
      replace HB := Lib.hid (bstep HB.out hb (Nat.le_refl _))
      clear hb HW
      go_wp2_with fail
      go_ret
      exact ⟨rfl, HB.out⟩
  have h1 : 0 < nm := by omega
  have hs2 : s.length ≤ 524288 := by omega
  have b1 : ((nm : Int) == 0) = false := by simp; omega
  have b2 : decide (524288 < (s.length : Int)) = false := decide_eq_false (by omega)
  clear h0
  obtain ⟨i, hii⟩ : ∃ i, i = pickN a nm := ⟨_, rfl⟩
  have hi0 : i < nm := by rw [hii]; exact pickN_lt _ _ h1
  have hi : i < d.msgs.length := by have := HNM.out; omega
  replace cK := cK h1
  rw [← hii] at cK
  obtain ⟨N, M, p1, p2, p3, p4, p5⟩ := HPL.out hs2 i hi
  obtain ⟨hNM, hMs, m', LL, CC, hz, hdb, hfl⟩ := p5
  obtain ⟨k, hk⟩ : ∃ k, k = msgK d i := ⟨_, rfl⟩
  rw [← HL.out, ← hk] at p3 p4
  have P1 := Lib.hid p1
  have P2 := Lib.hid p2
  have P3 := Lib.hid p3
  have HK := Lib.hid hk
  have hkv : ((L : Int) - (nt : Nat) - (nm : Nat) + (i : Nat) : Int) = (k : Nat) := by rw [hk, HLN1.out]; unfold msgK; omega
  clear p1 p2 p3 hk HPL hii
  have hbk := HBK.out
  go_wp2_with (refine wpList_loadS hbk 32 (.tmp 5) hu (by rw [hC9]; exact db_size) ?_)
  with_reducible refine (cP _ _ HCC.out).mono ?_
  rintro e w5 ⟨l, u, rfl, h2⟩
  obtain ⟨la, lc, e1, -⟩ := h2.pl.shape
  subst e1
  obtain ⟨ua, uc, e1, -⟩ := h2.wd.shape
  subst e1
  obtain ⟨-, -, lb, lo, ub, uo, rfl, rfl, hlu⟩ := two_cells h2 (by rw [List.length_map, ← HL.out]; omega)
  have HLU := Lib.hid hlu
  have hb := h2.bel
  have hln : ((nodsD d).map headM).length = L := by rw [List.length_map, HL.out]
  rw [hln]
  have HLN := Lib.hid hln
  replace HW := Lib.hid (HW.out.keep hb)
  replace HM := Lib.hid (HM.out.keep last_rdMsg hb)
  replace HB := Lib.hid (bstep HB.out hb (Nat.le_refl _))
  replace f7 := cell_keep' f7 hb
  replace f8 := cell_keep' f8 hb
  clear h2 hlu hb cP hln hbk HBK HCC HEC
  clear b1 b2
  go_wp2_with fail
  with_reducible refine (cK _).mono ?_
  rintro e w6 ⟨rfl, rfl⟩
  clear cK
  go_upto_region 7 with fail
  clear hkv
  obtain ⟨x1, x2, -⟩ := HLU.out k (by rw [HLN.out]; exact p4)
  obtain ⟨y1, y2⟩ := P1.out (by rw [← HK.out, ← HL.out]; exact p4)
  rw [List.getElem_map] at x1 x2
  simp only [← HK.out] at y2
  generalize headM ((nodsD d)[k]'(by rw [← HL.out]; exact p4)) = Z at *
  obtain ⟨tx, Ln, Cn⟩ := Z
  dsimp only at *
  go_wp2_with fail
  with_reducible refine (cA.out _ _ y1 Ln Cn y2).mono ?_
  rintro e w7 ⟨rfl, hb⟩
  replace HW := Lib.hid (HW.out.keep hb)
  replace HM := Lib.hid (HM.out.keep last_rdMsg hb)
  replace HB := Lib.hid (bstep HB.out hb (Nat.le_refl _))
  replace f7 := cell_keep' f7 hb
  replace f8 := cell_keep' f8 hb
  have HBW := Lib.hid hb
  clear hb x1 x2 y1 y2 P1
  by_cases hk1 : k + 1 < L
  case' neg =>
    have hMs2 : M = s.length := P3.out (by omega)
    clear P2 P3 HLU HLN cA HBW
    go_upto_region 11 with fail
    rw [← hMs2]
    clear hMs2
  case' pos =>
    obtain ⟨x1, x2, -⟩ := HLU.out (k + 1) (by rw [HLN.out]; exact hk1)
    obtain ⟨y1, y2⟩ := P2.out (by rw [← HK.out, ← HL.out]; exact hk1)
    rw [List.getElem_map] at x1 x2
    simp only [← HK.out] at y2
    generalize headM ((nodsD d)[k + 1]'(by rw [← HL.out]; exact hk1)) = Z at *
    obtain ⟨tx2, Ln2, Cn2⟩ := Z
    dsimp only at *
    replace x1 := cell_keep' x1 HBW.out
    replace x2 := cell_keep' x2 HBW.out
    clear HLU HLN P2 P3 HBW
    go_wp2_with fail
    with_reducible refine (cA.out _ _ y1 Ln2 Cn2 y2).mono ?_
    rintro e w7 ⟨rfl, hb⟩
    replace HW := Lib.hid (HW.out.keep hb)
    replace HM := Lib.hid (HM.out.keep last_rdMsg hb)
    replace HB := Lib.hid (bstep HB.out hb (Nat.le_refl _))
    replace f7 := cell_keep' f7 hb
    replace f8 := cell_keep' f8 hb
    clear hb x1 x2 y1 y2 cA
    go_upto_region 11 with fail
  all_goals
    have hgt : decide ((M : Int) < (N : Nat)) = false := decide_eq_false (by omega)
    have hcm := cut_mid s N M hNM
    have hzl : ((s.drop N).take (M - N)).length ≤ 524288 := by rw [List.length_take, List.length_drop]; omega
    have cR2 := read6_good (buL ++ (s.drop N).take (M - N)) (by rw [List.length_append]; show 6 + _ ≤ _; omega) ⟨false, ⟨0, 0, []⟩, ⟨LL, CC, []⟩, [m'], []⟩ hdb (fun _ => rfl) hfl
    rw [show buL = [66, 85, 95, 32, 58, 10] from rfl] at cR2
    have hcat := str_cat [66, 85, 95, 32, 58, 10] ((s.drop N).take (M - N))
    generalize (s.drop N).take (M - N) = Z at *
    simp only [List.cons_append, List.nil_append] at cR2
    go_upto_region 13 with fail
    go_wp2_with fail
    with_reducible refine (cR2 _ HW.out).mono ?_
    rintro e w8 ⟨C2, rfl, hC2, hb⟩
    obtain ⟨hD9, hD1⟩ := fdDb_shape (b := 0) hC2
    have hba := (Below.refl w8.heap.size w8).alloc (Nat.le_refl _) (.cells C2 32)
    have hb2 := bstep hb hba (Nat.le_refl _)
    have HF := Lib.hid (fd_db (last_fdDb _ _ _ _ hC2 hba))
    have hbk := Blk.new w8 C2 32
    obtain ⟨q1, q2, q3, q4, q5, q6, eC2, -, -, -⟩ := HF.out
    have g7 := hbk.cell 7 (.slice q3 1 q4) (by rw [Array.toList_inj.1 eC2]; rfl)
    have HBK := Lib.hid hbk
    replace HM := Lib.hid (HM.out.keep last_rdMsg hb2)
    replace HB := Lib.hid (bstep HB.out hb2 (Nat.le_refl _))
    replace f7 := cell_keep' f7 hb2
    clear hC2 hb cR2 hba hb2 eC2 hbk HW f8 hcat hcm hgt hzl
    go_upto_region 14 with (refine wpList_newS (Z := zeroDb) (cs := C2) 32 (.tmp 13) (.tmp 92) (by rw [hD9]; exact db_zero) (by rw [hD9]; rfl) hD1 ?_)
    generalize w8.alloc (.cells C2 32) = w9 at *
    generalize w8.heap.size = k13 at *
    clear hD1
    obtain ⟨mb, mo, rfl, -⟩ := HM.out.at (by decide) hi
    obtain ⟨nn1, hnn1⟩ : ∃ x, x = pm - i := ⟨_, rfl⟩
    have hml1 := HM.out.le
    rw [← HNM.out] at hml1
    have hone : rdDb w9 (oneD d.msgs[i]) (#[.bool false, .int .i64 0, .int .i64 0, .string ⟨#[]⟩, .int .i64 0, .int .i64 0, .slice none 0 0, .slice (some ⟨mb, mo + i * 8, none⟩) 1 (pm - i), .slice none 0 0] : Array Value).toList :=
      ⟨none, 0, some ⟨mb, mo + i * 8, none⟩, pm - i, none, 0, rfl, SlOf.nil _ _ _, HM.out.mid i hi, SlRd.nil _ _ _⟩
    have hfit1 : DbFit (oneD d.msgs[i]) := ⟨(by decide : (0 : Nat) ≤ 4000000), (by decide : (1 : Nat) ≤ 4000000), fun m hm => by
      obtain rfl : m = d.msgs[i] := List.mem_singleton.1 hm
      obtain ⟨g1, g2⟩ := HMB.out _ (List.getElem_mem hi)
      exact ⟨by omega, g2⟩, (by decide : (0 : Nat) ≤ 4000000), fun t ht => by cases ht⟩
    have cB1 := bare_any (oneD d.msgs[i]) hfit1 (fun _ => rfl) w9 _ hone
    have cB2 := fun (W : World) hC => bare_any ⟨false, ⟨0, 0, []⟩, ⟨LL, CC, []⟩, [m'], []⟩ (bd_fit hdb (by omega)) (fun _ => rfl) W C2 hC
    have e1 : bareD (oneD d.msgs[i]) = oneD (zMsg m') := by rw [hz]; rfl
    have e2 : bareD ⟨false, ⟨0, 0, []⟩, ⟨LL, CC, []⟩, [m'], []⟩ = oneD (zMsg m') := rfl
    rw [e1] at cB1
    rw [e2] at cB2
    generalize zMsg m' = mz at *
    clear hone hfit1 hdb hfl hz e1 e2
    go_wp2_with fail
    with_reducible refine cB1.mono ?_
    rintro e w10 ⟨E1, rfl, hE1, hb⟩
    obtain ⟨hE9, hE0⟩ := fdDb_shape hE1
    have hba := (Below.refl w10.heap.size w10).alloc (Nat.le_refl _) (.cells E1 32)
    have hb2 := bstep hb hba (Nat.le_refl _)
    replace HF := Lib.hid (last_rdDb _ _ _ _ HF.out hb2)
    replace HBK := Lib.hid (HBK.out.keep hb2 (Nat.le_refl _))
    replace HB := Lib.hid (bstep HB.out hb2 (Nat.le_refl _))
    have HE1 := Lib.hid (fd_db (fdDbN_fd (last_fdDbN _ _ _ _ _ hE1 hba)))
    have HK15 := Lib.hid (Blk.new w10 E1 32)
    clear hb hba hb2 hE1 cB1
    go_upto_region 17 with (refine wpList_newS (Z := zeroDb) (cs := E1) 32 (.tmp 15) (.tmp 109) (by rw [hE9]; exact db_zero) (by rw [hE9]; rfl) hE0 ?_)
    generalize w10.alloc (.cells E1 32) = w11 at *
    generalize w10.heap.size = k15 at *
    clear hE0 f7 g7 HM
    have hbk := HBK.out
    go_wp2_with (refine wpList_loadS hbk 32 (.tmp 13) hu (by rw [hD9]; exact db_size) ?_)
    with_reducible refine (cB2 _ HF.out).mono ?_
    rintro e w12 ⟨E2, rfl, hE2, hb⟩
    obtain ⟨hG9, hG0⟩ := fdDb_shape hE2
    have hba := (Below.refl w12.heap.size w12).alloc (Nat.le_refl _) (.cells E2 32)
    have hb2 := bstep hb hba (Nat.le_refl _)
    replace HB := Lib.hid (bstep HB.out hb2 (Nat.le_refl _))
    replace HE1 := Lib.hid (last_rdDb _ _ _ _ HE1.out hb2)
    replace HK15 := Lib.hid (HK15.out.keep hb2 (Nat.le_refl _))
    have HE2 := Lib.hid (fd_db (fdDbN_fd (last_fdDbN _ _ _ _ _ hE2 hba)))
    have HK16 := Lib.hid (Blk.new w12 E2 32)
    clear hb hba hb2 hE2 cB2 hbk HBK HF
    go_upto_region 18 with (refine wpList_newS (Z := zeroDb) (cs := E2) 32 (.tmp 16) (.tmp 111) (by rw [hG9]; exact db_zero) (by rw [hG9]; rfl) hG0 ?_)
    generalize w12.alloc (.cells E2 32) = w13 at *
    generalize w12.heap.size = k16 at *
    obtain ⟨r1, r2, r3, r4, r5, r6, eE1, -, hM1, -⟩ := HE1.out
    obtain ⟨t1, t2, t3, t4, t5, t6, eE2, -, hM2, -⟩ := HE2.out
    obtain ⟨xb, xo, rfl, hxb, cs, hcl, hrd, hrg⟩ := SlRd.at hM1 (by decide) (show 0 < [mz].length from Nat.zero_lt_one)
    obtain ⟨yb, yo, rfl, hyb, ds, hdl, hrd', hrg'⟩ := SlRd.at hM2 (by decide) (show 0 < [mz].length from Nat.zero_lt_one)
    have u7 := HK15.out.cell 7 (.slice (some ⟨xb, xo, none⟩) 1 r4) (by rw [Array.toList_inj.1 eE1]; rfl)
    have v6 := HK16.out.cell 6 (.slice t1 0 t2) (by rw [Array.toList_inj.1 eE2]; rfl)
    have v7 := HK16.out.cell 7 (.slice (some ⟨yb, yo, none⟩) 1 t4) (by rw [Array.toList_inj.1 eE2]; rfl)
    have v8 := HK16.out.cell 8 (.slice t5 0 t6) (by rw [Array.toList_inj.1 eE2]; rfl)
    have c := fun z : Later w13 => sameMsg_any mz z.w cs.toArray ds.toArray (last_rdMsg _ _ _ _ hrd z.below) (last_rdMsg _ _ _ _ hrd' z.below)
    have hsz : (Tryz.prog.info? 48).map (·.size) = some cs.length := by rw [hcl]; exact msg_size
    have hsz' : (Tryz.prog.info? 48).map (·.size) = some ds.length := by rw [hdl]; exact msg_size
    rw [Nat.zero_mul, Nat.add_zero] at hrg hrg'
    have rr1 : ∀ v, (∃ z : Later w13, v = z.w) → v.rangeAt xb xo cs := by rintro _ ⟨z, rfl⟩; exact Later.range hrg z
    have rr2 : ∀ v, (∃ z : Later w13, v = z.w) → v.rangeAt yb yo ds := by rintro _ ⟨z, rfl⟩; exact Later.range hrg' z
    have l1 := fun x : Later w13 => Later.cell u7 x
    have l2 := fun x : Later w13 => Later.cell v6 x
    have l3 := fun x : Later w13 => Later.cell v7 x
    have l4 := fun x : Later w13 => Later.cell v8 x
    have hum := Tryz.underlying48
    clear hrd hrd' hrg hrg' hcl hdl eE1 eE2 hM1 hM2 HE1 HE2 HK15 HK16 hG0
    try simp only [Act.put, List.setIfInBounds_toArray, List.set_cons_zero, List.set_cons_succ]
    refine wp_region_later0 (by kernel_rfl) (by kernel_rfl) ?_
    repeat (first | (refine wpQuiet_loadRGa rr1 48 (.tmp 126) hum hsz ?_; simp only [Act.put, List.setIfInBounds_toArray, List.set_cons_zero, List.set_cons_succ]) | (refine wpQuiet_loadRGa rr2 48 (.tmp 130) hum hsz' ?_; simp only [Act.put, List.setIfInBounds_toArray, List.set_cons_zero, List.set_cons_succ]) | go_big_quiet_step ((go_at_call 13; with_reducible exact Later.made (c _))))
    refine wpQuiet_nil ?_
    rintro _ ⟨z, rfl⟩
    have HBZ := Lib.hid (bstep HB.out z.below (Nat.le_refl _))
    generalize z.w = w14 at *
    clear c rr1 rr2 l1 l2 l3 l4
    go_wp2_with fail
    go_ret
    exact ⟨rfl, HBZ.out⟩
end Go.Proofs.YtjgjckipfkkgiaaGreatDoor

namespace Go.Proofs.YtjgjckipfkkgiaaGreatDoor
set_option linter.unusedVariables false
open Go.RowKit Go.Shelf

theorem parsealone_any (s : List UInt8) (hs : s.length ≤ 9223372036854775807) (a : Int) (ha : -9223372036854775808 ≤ a ∧ a ≤ 9223372036854775807) (w : World) (hW : FileW w) :
    Calls Tryz.prog 4 #[.string ⟨s.toArray⟩, .int .i64 a] w fun e w' => e = .returned (.bool true) ∧ Below w.heap.size w w' := by
  rcases read_cases s with ⟨T, x, hf⟩ | ⟨T, d, r, hw, hd, hl⟩
  · exact parsealone_bad s a (fun w hW => read6_bad s hs T x hf w hW) w hW
  · obtain ⟨h1, h2, h3⟩ := file_of hw hd
    exact parsealone_good s hl a ha d h1 h2 h3 (fun h i hi => alone_plain hw hd h i hi) w hW
theorem parsealone_str (s : ByteArray) (hs : s.size ≤ 9223372036854775807) (a : Int) (ha : -9223372036854775808 ≤ a ∧ a ≤ 9223372036854775807) (w : World) (hW : FileW w) :
    Calls Tryz.prog 4 #[.string s, .int .i64 a] w fun e w' => e = .returned (.bool true) ∧ Below w.heap.size w w' := by
  have e : (⟨s.data.toList.toArray⟩ : ByteArray) = s := by cases s; simp
  have h := parsealone_any s.data.toList (by rw [Array.length_toList]; exact hs) a ha w hW
  rw [e] at h
  exact h
end Go.Proofs.YtjgjckipfkkgiaaGreatDoor
