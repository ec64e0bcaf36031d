/-
  The reference's copy of a database: contract.
-/
import Derived.Test.YtlacjhjckkablaaGreatDoorBaseD
import Derived.Test.YtlacjhjckkablaaGreatDoorListTxt
import Derived.Test.YtlacjhjckkablaaGreatDoorRows
import Derived.Test.YtlacjhjckkablaaGreatDoorBaseC
import Derived.Test.YtlacjhjckkablaaGreatDoorTxtP
import Derived.BigQuiet
import Derived.Test.YtlacjhjckkablaaGreatDoorHeldP
import Derived.Test.YtlacjhjckkablaaGreatDoorCopC
import Derived.Test.YtlacjhjckkablaaGreatDoorFilM
import Derived.Test.YtlacjhjckkablaaGreatDoorRlxM
import Derived.Test.YtlacjhjckkablaaGreatDoorPrnF
import Derived.Test.YtlacjhjckkablaaGreatDoorParX
import Derived.Test.YtlacjhjckkablaaGreatDoorSamA

namespace Go.Proofs.YtlacjhjckkablaaGreatDoor
set_option linter.unusedVariables false
open Go.RowKit

theorem SlOf.drew {α : Type} {w : World} {en : α → List Value} {size : Nat} {a : Option Addr} {cap : Nat} {xs : List α} (h : SlOf w en size a cap xs) : SlOf w.drew en size a cap xs :=
  h.keep (Below.refl _ _).drew (Nat.le_refl _)
theorem SlOf.alloc {α : Type} {w : World} {en : α → List Value} {size : Nat} {a : Option Addr} {cap : Nat} {xs : List α} (h : SlOf w en size a cap xs) (o : Obj) : SlOf (w.alloc o) en size a cap xs :=
  h.keep ((Below.refl w.heap.size w).alloc (Nat.le_refl _) o) (Nat.le_refl _)

end Go.Proofs.YtlacjhjckkablaaGreatDoor

namespace Go.Proofs.YtlacjhjckkablaaGreatDoor
set_option linter.unusedVariables false
open Go.RowKit

theorem enTx_len (l : List UInt8) : (enTx l).length = 1 := rfl
end Go.Proofs.YtlacjhjckkablaaGreatDoor

namespace Go.Proofs.YtlacjhjckkablaaGreatDoor
set_option linter.unusedVariables false
open Go.RowKit

/-! ### as handed in -/
/-! ### as made anew (the blocks are number b at least) -/
/-! ### they last -/
theorem last_rdDb : Lasts rdDb := fun w w' x cs ⟨a, cap, b, cb, c, cc, h1, h2, h3, h4⟩ hb => ⟨a, cap, b, cb, c, cc, h1, h2.keep hb (Nat.le_refl _), h3.keep last_rdMsg hb, h4.keep last_rdTab hb⟩
theorem last_fdSig : Lasts fdSig := last_fdSigN 0
theorem last_fdMsg : Lasts fdMsg := last_fdMsgN 0
theorem last_fdTab : Lasts fdTab := last_fdTabN 0
theorem last_fdDb : Lasts fdDb := last_fdDbN 0

/-! ### they last while a block of another kind is written -/
theorem apt_fdSig {e : TypeId} (he : 9 ≠ e) : Apt fdSig e := apt_fdSigN 0 he
theorem apt_fdMsg {e : TypeId} (he : 9 ≠ e) (he2 : 82 ≠ e) : Apt fdMsg e := apt_fdMsgN 0 he he2
theorem apt_fdTab {e : TypeId} (he : 178 ≠ e) : Apt fdTab e := apt_fdTabN 0 he
end Go.Proofs.YtlacjhjckkablaaGreatDoor

namespace Go.Proofs.YtlacjhjckkablaaGreatDoor
set_option linter.unusedVariables false
open Go.RowKit Go.Shelf

/-- one place behind another -/
def AftP (r q : Int × Int) : Prop := q.1 < r.1 ∨ r.1 = q.1 ∧ q.2 < r.2
theorem AftP.trans {a b c : Int × Int} (h : AftP a b) (h2 : AftP b c) : AftP a c := by unfold AftP at *; omega
theorem AftP.irr {a : Int × Int} (h : AftP a a) : False := by unfold AftP at h; omega
theorem aft_next (p : Int × Int) (r : Nat) : AftP (nextP p r) p := by
  unfold AftP nextP
  split
  · left; show p.1 < p.1 + 1; omega
  · right; exact ⟨rfl, by show p.2 < p.2 + 1; omega⟩
theorem Bnd.aft {s : List UInt8} {p q : Int × Int} {n : Nat} (h : Bnd s p n q) : q = p ∧ n = 0 ∨ AftP q p := by
  induction h with
  | zero s p => exact .inl ⟨rfl, rfl⟩
  | step s p n q hne h ih =>
    rcases ih with ⟨rfl, _⟩ | h2
    · exact .inr (aft_next _ _)
    · exact .inr (h2.trans (aft_next _ _))
theorem Bnd.rise {s : List UInt8} {p q : Int × Int} {i : Nat} (h : Bnd s p i q) : ∀ {j : Nat} {r : Int × Int}, Bnd s p j r → i < j → AftP r q := by
  induction h with
  | zero s p =>
    intro j r h2 hij
    rcases h2.aft with ⟨_, h3⟩ | h3
    · omega
    · exact h3
  | step s p n q hne h ih =>
    intro j r h2 hij
    cases h2 with
    | zero => omega
    | step _ _ m _ _ h3 => exact ih h3 (by omega)
theorem Bnd.uniq {s : List UInt8} {p q : Int × Int} {i j : Nat} (h : Bnd s p i q) (h2 : Bnd s p j q) : i = j := by
  rcases Nat.lt_trichotomy i j with h3 | h3 | h3
  · exact (h.rise h2 h3).irr.elim
  · exact h3
  · exact (h2.rise h h3).irr.elim

/-- the text of a token that is no text in quotes -/
theorem tok_text {s : List UInt8} {k : Int} {t : List UInt8} {n : Nat} (h : tokR s = .good k t n) (h3 : k ≠ 3) : t = s.take n := by
  unfold tokR at h
  split at h
  · cases h; rfl
  · split at h
    · split at h
      · cases h
      · cases h; rfl
    · split at h
      · unfold textR at h
        split at h
        · cases h
        · split at h
          · split at h <;> cases h
          · cases h; exact absurd rfl h3
      · split at h
        · cases h; rfl
        · split at h
          · cases h; rfl
          · cases h

/-! ### numbers are read -/
end Go.Proofs.YtlacjhjckkablaaGreatDoor

namespace Go.Proofs.YtlacjhjckkablaaGreatDoor
set_option linter.unusedVariables false
open Go.RowKit Go.Shelf

def sigM (x : SigX) : Mark := ([83, 71, 95], x.d.line, x.d.col)
def msgM (m : MsgD) : List Mark := ([66, 79, 95], m.line, m.col) :: m.sigs.map sigM
def nodM : NodeD → List Mark
  | .ver v => [([86, 69, 82, 83, 73, 79, 78], v.line, v.col)]
  | .sta s => [([66, 85, 95], s.line, s.col)]
  | .msg m => msgM m
  | .tab t => [([86, 65, 76, 95], t.line, t.col)]
theorem Holds.nil (u : List TokD) : Holds u [] := ⟨[], List.nil_sublist _, rfl, by simp⟩
theorem Holds.app {u v : List TokD} {m n : List Mark} (h : Holds u m) (h2 : Holds v n) : Holds (u ++ v) (m ++ n) := by
  obtain ⟨s, a, b, c⟩ := h
  obtain ⟨t, d, e, f⟩ := h2
  refine ⟨s ++ t, a.append d, by rw [List.map_append, b, e], fun x hx => ?_⟩
  rcases List.mem_append.1 hx with hx | hx
  · exact c x hx
  · exact f x hx
theorem Holds.one {t : TokD} (h : Plain14 t) : Holds [t] [mkT t] := ⟨[t], List.Sublist.refl _, rfl, by simpa using h⟩

/-- a step takes a beginning of the tokens -/
def Eats {α : Type} (p : List TokD → PR α) : Prop := ∀ ts x ts', p ts = .ok x ts' → TsB ts → TsB ts' ∧ ∃ u, ts = u ++ ts'
theorem Eats.bind {α β : Type} {p : List TokD → PR α} {f : α → List TokD → PR β} (hp : Eats p) (hf : ∀ y, Eats (f y)) : Eats (fun ts => (p ts).bind f) := fun ts x ts' e hb => by
  obtain ⟨y, t, h1, h2⟩ := bind_inv e
  obtain ⟨b1, u, rfl⟩ := hp _ _ _ h1 hb
  obtain ⟨b2, v, rfl⟩ := hf y _ _ _ h2 b1
  exact ⟨b2, u ++ v, by rw [List.append_assoc]⟩
theorem eats_ok {α : Type} (x : α) : Eats (fun ts => PR.ok x ts) := fun ts y ts' e hb => by
  cases e
  exact ⟨hb, [], rfl⟩
theorem head_tail {ts : List TokD} (h : TsB ts) : ts = [headT ts] ++ ts.tail := by
  have := h.1.pos
  cases ts with
  | nil => simp at this
  | cons t l => rfl
theorem eats_tail {α : Type} {p : List TokD → PR α} (hp : ∀ ts x ts', p ts = .ok x ts' → TsB ts → TsB ts' ∧ ts' = ts.tail) : Eats p := fun ts x ts' e hb => by
  obtain ⟨h1, h2⟩ := hp _ _ _ e hb
  exact ⟨h1, [headT ts], by rw [h2]; exact head_tail hb⟩
theorem must_eats (t : List UInt8) : Eats (mustR t) := eats_tail fun ts x ts' e hb => ⟨(must_ok e hb).1, (must_ok e hb).2.2⟩
theorem next_eats (k : Int) : Eats (nextR k) := eats_tail fun ts x ts' e hb => ⟨(next_ok e hb).1, (next_ok e hb).2.2.1⟩
theorem name_eats : Eats nameR := eats_tail fun ts x ts' e hb => ⟨(name_ok e hb).1, (name_ok e hb).2.2.2⟩
theorem whole_eats (b : Nat) : Eats (wholeR b) := eats_tail fun ts x ts' e hb => ⟨(whole_ok e hb).1, (whole_ok e hb).2.2⟩
theorem frac_eats : Eats fracR := eats_tail fun ts x ts' e hb => ⟨(frac_ok e hb).1, (frac_ok e hb).2.1⟩
theorem id_eats : Eats idR := eats_tail fun ts x ts' e hb => ⟨(id_ok e hb).1, (id_ok e hb).2.1⟩
theorem order_eats : Eats orderR := fun ts x ts' e hb => by
  have h := order_takes _ _ _ e hb
  unfold orderR formR wrongR at e
  split at e
  · cases e
    exact ⟨h.1, [headT ts], head_tail hb⟩
  · cases e
theorem role_eats : Eats roleR := fun ts x ts' e hb => by
  have h := role_ok e hb
  unfold roleR formR wrongR at e
  split at e
  · split at e
    · cases e
      exact ⟨h.1, [headT ts], head_tail hb⟩
    · split at e
      · cases e
        exact ⟨h.1, [headT ts], head_tail hb⟩
      · cases e
  · cases e
    exact ⟨hb, [], rfl⟩
theorem skip_eats : ∀ (f : Nat), Eats (skipF f)
  | 0 => eats_ok ()
  | f + 1 => fun ts x ts' h hb => by
    unfold skipF at h
    split at h
    · cases h
      exact ⟨hb, [], rfl⟩
    · split at h
      · rename_i y ts2 hn
        obtain ⟨b1, u, rfl⟩ := next_eats _ _ _ _ hn hb
        obtain ⟨b2, v, rfl⟩ := skip_eats f _ _ _ h b1
        exact ⟨b2, u ++ v, by rw [List.append_assoc]⟩
      · cases h
theorem comm_eats : ∀ (f : Nat), Eats (commF f)
  | 0 => eats_ok ()
  | f + 1 => fun ts x ts' h hb => by
    rw [commF_succ] at h
    split at h
    · rename_i hs
      have hb2 := hb.tail (sees_kind hs)
      unfold afterS at h
      split at h
      · rename_i y t hk
        obtain ⟨b1, u, hu⟩ := skip_eats _ _ _ _ hk hb2
        split at h
        · rename_i z t' hm
          obtain ⟨b3, v, rfl⟩ := must_eats _ _ _ _ hm b1
          obtain ⟨b4, z, rfl⟩ := comm_eats f _ _ _ h b3
          refine ⟨b4, [headT ts] ++ u ++ v ++ z, ?_⟩
          have := head_tail hb
          rw [hu] at this
          simpa [List.append_assoc] using this
        · cases h
      · cases h
    · cases h
      exact ⟨hb, [], rfl⟩
theorem comments_eats : Eats commentsR := fun ts x ts' h hb => comm_eats _ _ _ _ h hb
theorem to_eats : ∀ (f : Nat) (l : List (List UInt8)), Eats (toF f l)
  | 0, l => eats_ok l
  | f + 1, l => fun ts x ts' h hb => by
    unfold toF at h
    split at h
    · rename_i hs
      obtain ⟨y, t, h1, h2⟩ := bind_inv h
      obtain ⟨b1, u, hu⟩ := name_eats _ _ _ h1 (hb.tail (sees_kind hs))
      obtain ⟨b2, v, rfl⟩ := to_eats f _ _ _ _ h2 b1
      refine ⟨b2, [headT ts] ++ u ++ v, ?_⟩
      have := head_tail hb
      rw [hu] at this
      simpa [List.append_assoc] using this
    · cases h
      exact ⟨hb, [], rfl⟩
theorem rows_eats : ∀ (f : Nat) (l : List (Int × List UInt8)), Eats (rowsF f l)
  | 0, l => eats_ok l
  | f + 1, l => fun ts x ts' h hb => by
    unfold rowsF wrongR at h
    split at h
    · rename_i hk
      split at h
      · cases h
      · split at h
        · cases h
        · obtain ⟨y, t, h1, h2⟩ := bind_inv h
          obtain ⟨b1, u, hu⟩ := next_eats _ _ _ _ h1 (hb.tail (by rw [hk]; decide))
          obtain ⟨b2, v, rfl⟩ := rows_eats f _ _ _ _ h2 b1
          refine ⟨b2, [headT ts] ++ u ++ v, ?_⟩
          have := head_tail hb
          rw [hu] at this
          simpa [List.append_assoc] using this
    · cases h
      exact ⟨hb, [], rfl⟩
theorem nams_eats : ∀ (f : Nat) (l : List (List UInt8)), Eats (namsF f l)
  | 0, l => eats_ok l
  | f + 1, l => fun ts x ts' h hb => by
    unfold namsF at h
    split at h
    · obtain ⟨y, t, h1, h2⟩ := bind_inv h
      obtain ⟨b1, u, rfl⟩ := name_eats _ _ _ h1 hb
      obtain ⟨b2, v, rfl⟩ := nams_eats f _ _ _ _ h2 b1
      exact ⟨b2, u ++ v, by rw [List.append_assoc]⟩
    · cases h
      exact ⟨hb, [], rfl⟩

/-! ### what is answered -/
def Res {α : Type} (p : List TokD → PR α) (Q : α → Prop) : Prop := ∀ ts x ts', p ts = .ok x ts' → Q x
theorem Res.bind {α β : Type} {p : List TokD → PR α} {f : α → List TokD → PR β} {Q : β → Prop} (hf : ∀ y, Res (f y) Q) : Res (fun ts => (p ts).bind f) Q := fun ts x ts' e => by
  obtain ⟨y, t, h1, h2⟩ := bind_inv e
  exact hf y _ _ _ h2
theorem res_ok {α : Type} {x : α} {Q : α → Prop} (h : Q x) : Res (fun ts => PR.ok x ts) Q := fun ts y ts' e => by
  cases e
  exact h
theorem must_head {text : List UInt8} {ts ts' : List TokD} {x : TokD} (h : mustR text ts = .ok x ts') : x = headT ts ∧ (headT ts).text = text ∧ Plain14 (headT ts) := by
  unfold mustR formR wrongR at h
  split at h
  · rename_i hs
    cases h
    unfold seesB at hs
    simp only [Bool.and_eq_true, Bool.or_eq_true, beq_iff_eq, decide_eq_true_eq] at hs
    exact ⟨rfl, hs.1, hs.2⟩
  · cases h
/-- the signal: its first token says where it stands -/
theorem sig_holds {ts ts' : List TokD} {x : SigX} (h : sigR ts = .ok x ts') (hb : TsB ts) : TsB ts' ∧ ∃ u, ts = u ++ ts' ∧ Holds u [sigM x] := by
  unfold sigR at h
  obtain ⟨t, ts1, h1, h2⟩ := bind_inv h
  obtain ⟨b1, -, e1⟩ := must_ok h1 hb
  obtain ⟨rfl, htx, hpl⟩ := must_head h1
  have hE := (Eats.bind name_eats fun nm => Eats.bind role_eats fun rb => Eats.bind (must_eats _) fun _ =>
    Eats.bind (whole_eats _) fun st => Eats.bind (must_eats _) fun _ => Eats.bind (whole_eats _) fun sz => Eats.bind order_eats fun o =>
    Eats.bind (must_eats _) fun _ => Eats.bind frac_eats fun sc => Eats.bind (must_eats _) fun _ => Eats.bind frac_eats fun of => Eats.bind (must_eats _) fun _ =>
    Eats.bind (must_eats _) fun _ => Eats.bind frac_eats fun mi => Eats.bind (must_eats _) fun _ => Eats.bind frac_eats fun ma => Eats.bind (must_eats _) fun _ =>
    Eats.bind (next_eats _) fun u => Eats.bind name_eats fun n1 => Eats.bind (fun ts x ts' e hb => to_eats ts.length [n1] ts x ts' e hb) fun rcv => eats_ok _) ts1 x ts' h2 b1
  have hR := (Res.bind fun nm => Res.bind fun rb => Res.bind fun _ =>
    Res.bind fun st => Res.bind fun _ => Res.bind fun sz => Res.bind fun o =>
    Res.bind fun _ => Res.bind fun sc => Res.bind fun _ => Res.bind fun of => Res.bind fun _ =>
    Res.bind fun _ => Res.bind fun mi => Res.bind fun _ => Res.bind fun ma => Res.bind fun _ =>
    Res.bind fun u => Res.bind fun n1 => Res.bind (Q := fun x : SigX => x.d.line = (headT ts).line ∧ x.d.col = (headT ts).col) fun rcv => res_ok ⟨rfl, rfl⟩) ts1 x ts' h2
  obtain ⟨b2, u, hu⟩ := hE
  refine ⟨b2, [headT ts] ++ u, ?_, ?_⟩
  · have := head_tail hb
    rw [← e1, hu] at this
    rw [List.append_assoc]
    exact this
  · have h3 := (Holds.one hpl).app (Holds.nil u)
    have : mkT (headT ts) = sigM x := by
      unfold mkT sigM
      rw [htx, hR.1, hR.2]
    rw [this] at h3
    exact h3
theorem sgs_holds : ∀ (f : Nat) {l r : List SigX} {ts ts' : List TokD}, sgsF f l ts = .ok r ts' → TsB ts → TsB ts' ∧ ∃ (u : List TokD) (new : List SigX), ts = u ++ ts' ∧ r = l ++ new ∧ Holds u (new.map sigM)
  | 0, l, r, ts, ts', h, hb => by
    cases h
    exact ⟨hb, [], [], rfl, by simp, Holds.nil _⟩
  | f + 1, l, r, ts, ts', h, hb => by
    unfold sgsF wrongR at h
    split at h
    · split at h
      · cases h
      · obtain ⟨y, t, h1, h2⟩ := bind_inv h
        obtain ⟨b1, u, hu, hh⟩ := sig_holds h1 hb
        obtain ⟨b2, v, new, rfl, rfl, hh2⟩ := sgs_holds f h2 b1
        exact ⟨b2, u ++ v, y :: new, by rw [hu, List.append_assoc], by simp, by simpa using hh.app hh2⟩
    · cases h
      exact ⟨hb, [], [], rfl, by simp, Holds.nil _⟩
theorem message_holds {ts ts' : List TokD} {x : MsgD} (h : messageR ts = .ok x ts') (hb : TsB ts) : TsB ts' ∧ ∃ u, ts = u ++ ts' ∧ Holds u (msgM x) := by
  unfold messageR at h
  obtain ⟨t, ts1, h1, h⟩ := bind_inv h
  obtain ⟨b1, -, e1⟩ := must_ok h1 hb
  obtain ⟨rfl, htx, hpl⟩ := must_head h1
  obtain ⟨i, ts2, h2, h⟩ := bind_inv h
  obtain ⟨b2, u2, hu2⟩ := id_eats _ _ _ h2 b1
  obtain ⟨nm, ts3, h3, h⟩ := bind_inv h
  obtain ⟨b3, u3, hu3⟩ := name_eats _ _ _ h3 b2
  obtain ⟨k4, ts4, h4, h⟩ := bind_inv h
  obtain ⟨b4, u4, hu4⟩ := must_eats _ _ _ _ h4 b3
  obtain ⟨sz, ts5, h5, h⟩ := bind_inv h
  obtain ⟨b5, u5, hu5⟩ := whole_eats _ _ _ _ h5 b4
  obtain ⟨sd, ts6, h6, h⟩ := bind_inv h
  obtain ⟨b6, u6, hu6⟩ := name_eats _ _ _ h6 b5
  obtain ⟨l, ts7, h7, h⟩ := bind_inv h
  obtain ⟨b7, u7, new, hu7, hl, hh⟩ := sgs_holds _ h7 b6
  cases h
  rw [List.nil_append] at hl
  subst hl
  refine ⟨b7, [headT ts] ++ ((u2 ++ u3 ++ u4 ++ u5 ++ u6) ++ u7), ?_, ?_⟩
  · have := head_tail hb
    rw [← e1, hu2, hu3, hu4, hu5, hu6, hu7] at this
    simpa [List.append_assoc] using this
  · have h8 := (Holds.one hpl).app ((Holds.nil (u2 ++ u3 ++ u4 ++ u5 ++ u6)).app hh)
    have : mkT (headT ts) = ([66, 79, 95], (headT ts).line, (headT ts).col) := by unfold mkT; rw [htx]
    rw [this] at h8
    exact h8
theorem table_holds {ts ts' : List TokD} {x : TabD} (h : tableR ts = .ok x ts') (hb : TsB ts) : TsB ts' ∧ ∃ u, ts = u ++ ts' ∧ Holds u (nodM (.tab x)) := by
  unfold tableR at h
  obtain ⟨t, ts1, h1, h⟩ := bind_inv h
  obtain ⟨b1, -, e1⟩ := must_ok h1 hb
  obtain ⟨rfl, htx, hpl⟩ := must_head h1
  obtain ⟨i, ts2, h2, h⟩ := bind_inv h
  obtain ⟨b2, u2, hu2⟩ := id_eats _ _ _ h2 b1
  obtain ⟨nm, ts3, h3, h⟩ := bind_inv h
  obtain ⟨b3, u3, hu3⟩ := name_eats _ _ _ h3 b2
  obtain ⟨l, ts4, h4, h⟩ := bind_inv h
  obtain ⟨b4, u4, hu4⟩ := rows_eats _ _ _ _ _ h4 b3
  obtain ⟨k5, ts5, h5, h⟩ := bind_inv h
  obtain ⟨b5, u5, hu5⟩ := must_eats _ _ _ _ h5 b4
  cases h
  refine ⟨b5, [headT ts] ++ (u2 ++ u3 ++ u4 ++ u5), ?_, ?_⟩
  · have := head_tail hb
    rw [← e1, hu2, hu3, hu4, hu5] at this
    simpa [List.append_assoc] using this
  · have h8 := (Holds.one hpl).app (Holds.nil (u2 ++ u3 ++ u4 ++ u5))
    have : mkT (headT ts) = ([86, 65, 76, 95], (headT ts).line, (headT ts).col) := by unfold mkT; rw [htx]
    rw [this] at h8
    exact h8
theorem mss_holds : ∀ (f n : Nat) {l r : List NodeD} {ts ts' : List TokD}, mssF f n l ts = .ok r ts' → TsB ts → TsB ts' ∧ ∃ (u : List TokD) (new : List MsgD), ts = u ++ ts' ∧ r = l ++ new.map .msg ∧ Holds u ((new.map NodeD.msg).flatMap nodM)
  | 0, n, l, r, ts, ts', h, hb => by
    cases h
    exact ⟨hb, [], [], rfl, by simp, Holds.nil _⟩
  | f + 1, n, l, r, ts, ts', h, hb => by
    unfold mssF wrongR at h
    split at h
    · split at h
      · cases h
      · obtain ⟨y, t, h1, h2⟩ := bind_inv h
        obtain ⟨b1, u, hu, hh⟩ := message_holds h1 hb
        obtain ⟨z, t2, h3, h4⟩ := bind_inv h2
        obtain ⟨b2, u2, hu2⟩ := comments_eats _ _ _ h3 b1
        obtain ⟨b3, v, new, rfl, rfl, hh2⟩ := mss_holds f (n + 1) h4 b2
        refine ⟨b3, u ++ (u2 ++ v), y :: new, by rw [hu, hu2]; simp, by simp, ?_⟩
        rw [List.map_cons, List.flatMap_cons]
        exact hh.app ((Holds.nil u2).app hh2)
    · cases h
      exact ⟨hb, [], [], rfl, by simp, Holds.nil _⟩
theorem tbs_holds : ∀ (f : Nat) {l r : List NodeD} {ts ts' : List TokD}, tbsF f l ts = .ok r ts' → TsB ts → TsB ts' ∧ ∃ (u : List TokD) (new : List TabD), ts = u ++ ts' ∧ r = l ++ new.map .tab ∧ Holds u ((new.map NodeD.tab).flatMap nodM)
  | 0, l, r, ts, ts', h, hb => by
    cases h
    exact ⟨hb, [], [], rfl, by simp, Holds.nil _⟩
  | f + 1, l, r, ts, ts', h, hb => by
    unfold tbsF at h
    split at h
    · obtain ⟨y, t, h1, h2⟩ := bind_inv h
      obtain ⟨b1, u, hu, hh⟩ := table_holds h1 hb
      obtain ⟨z, t2, h3, h4⟩ := bind_inv h2
      obtain ⟨b2, u2, hu2⟩ := comments_eats _ _ _ h3 b1
      obtain ⟨b3, v, new, rfl, rfl, hh2⟩ := tbs_holds f h4 b2
      refine ⟨b3, u ++ (u2 ++ v), y :: new, by rw [hu, hu2]; simp, by simp, ?_⟩
      rw [List.map_cons, List.flatMap_cons]
      exact hh.app ((Holds.nil u2).app hh2)
    · cases h
      exact ⟨hb, [], [], rfl, by simp, Holds.nil _⟩
theorem ver_holds {ts ts' : List TokD} {l : List NodeD} (h : verR ts = .ok l ts') (hb : TsB ts) : TsB ts' ∧ ∃ u, ts = u ++ ts' ∧ Holds u (l.flatMap nodM) ∧ (l = [] ∨ ∃ v, l = [.ver v]) := by
  unfold verR at h
  split at h
  · rename_i hs
    obtain ⟨x, t1, h1, h2⟩ := bind_inv h
    obtain ⟨b1, u1, hu1⟩ := next_eats _ _ _ _ h1 (hb.tail (sees_kind hs))
    obtain ⟨y, t2, h3, h4⟩ := bind_inv h2
    obtain ⟨b2, u2, hu2⟩ := comments_eats _ _ _ h3 b1
    cases h4
    refine ⟨b2, [headT ts] ++ (u1 ++ u2), ?_, ?_, .inr ⟨_, rfl⟩⟩
    · have := head_tail hb
      rw [hu1, hu2] at this
      simpa [List.append_assoc] using this
    · unfold seesB at hs
      simp only [Bool.and_eq_true, Bool.or_eq_true, beq_iff_eq, decide_eq_true_eq] at hs
      have h8 := (Holds.one (t := headT ts) hs.2).app (Holds.nil (u1 ++ u2))
      have : mkT (headT ts) = ([86, 69, 82, 83, 73, 79, 78], (headT ts).line, (headT ts).col) := by unfold mkT; rw [hs.1]
      rw [this] at h8
      exact h8
  · cases h
    exact ⟨hb, [], rfl, Holds.nil _, .inl rfl⟩
/-- the whole source: its parts, in order, and the marks of these among the tokens -/
theorem source_holds {ts ts' : List TokD} {l : List NodeD} (h : sourceR ts = .ok l ts') (hb : TsB ts) :
    Holds ts (l.flatMap nodM) ∧ ∃ (l0 : List NodeD) (s : StaD) (ms : List MsgD) (tbs : List TabD), l = l0 ++ (.sta s :: (ms.map .msg ++ tbs.map .tab)) ∧ (l0 = [] ∨ ∃ v, l0 = [.ver v]) := by
  unfold sourceR at h
  obtain ⟨u0, ts1, h1, h⟩ := bind_inv h
  obtain ⟨b1, v1, hv1⟩ := comments_eats _ _ _ h1 hb
  obtain ⟨l0, ts2, h2, h⟩ := bind_inv h
  obtain ⟨b2, v2, hv2, hh2, hl0⟩ := ver_holds h2 b1
  obtain ⟨t, ts3, h3, h⟩ := bind_inv h
  obtain ⟨b3, -, e3⟩ := must_ok h3 b2
  obtain ⟨rfl, htx, hpl⟩ := must_head h3
  obtain ⟨k4, ts4, h4, h⟩ := bind_inv h
  obtain ⟨b4, v4, hv4⟩ := must_eats _ _ _ _ h4 b3
  obtain ⟨ns, ts5, h5, h⟩ := bind_inv h
  obtain ⟨b5, v5, hv5⟩ := nams_eats _ _ _ _ _ h5 b4
  obtain ⟨u6, ts6, h6, h⟩ := bind_inv h
  obtain ⟨b6, v6, hv6⟩ := comments_eats _ _ _ h6 b5
  obtain ⟨l7, ts7, h7, h⟩ := bind_inv h
  obtain ⟨b7, v7, ms, hv7, hl7, hh7⟩ := mss_holds _ _ h7 b6
  obtain ⟨l8, ts8, h8, h⟩ := bind_inv h
  obtain ⟨b8, v8, tbs, hv8, hl8, hh8⟩ := tbs_holds _ h8 b7
  unfold endR formR wrongR at h
  split at h
  case isFalse => cases h
  cases h
  subst hl8
  subst hl7
  have hts : ts = v1 ++ (v2 ++ ([headT ts2] ++ ((v4 ++ v5 ++ v6) ++ (v7 ++ (v8 ++ ts'))))) := by
    have e2 := head_tail b2
    rw [← e3, hv4, hv5, hv6, hv7, hv8] at e2
    have e9 : ts = v1 ++ (v2 ++ ts2) := by rw [hv1, hv2]
    refine e9.trans (congrArg (fun z => v1 ++ (v2 ++ z)) (e2.trans ?_))
    simp [List.append_assoc]
  refine ⟨?_, l0, ⟨(headT ts2).line, (headT ts2).col, ns⟩, ms, tbs, by simp [List.append_assoc], hl0⟩
  have hone := Holds.one hpl
  rw [show mkT (headT ts2) = ([66, 85, 95], (headT ts2).line, (headT ts2).col) by unfold mkT; rw [htx]] at hone
  rw [hts]
  have h9 := (Holds.nil v1).app (hh2.app (hone.app ((Holds.nil (v4 ++ v5 ++ v6)).app (hh7.app (hh8.app (Holds.nil ts'))))))
  simpa [List.flatMap_append, List.flatMap_cons, nodM] using h9
end Go.Proofs.YtlacjhjckkablaaGreatDoor

namespace Go.Proofs.YtlacjhjckkablaaGreatDoor
set_option linter.unusedVariables false
open Go.RowKit

theorem step_loadS {P : Program} {ops : Array Oper} {o : Oper} {a : Act} {w : World} {K : Act → World → Prop} {Q : Exit → Act → World → Prop} {E : Prop} {k : Nat} {cs : Array Value} (hb : Blk w k cs) (ty : TypeId) (x : Operand) {d : TypeDesc}
    (hu : P.underlying ty = some d) (hi : (P.info? ty).map (·.size) = some cs.size)
    (h : K (a.put o.dst (.agg cs)) w)
    (hgd : o.guard = none := by rfl) (ho : o.op = .load ty x := by rfl) (hx : a.eval x = .pointer (some ⟨k, 0, none⟩) := by rfl) (hd : d.isRow = true := by rfl) :
    if Region.wanted o (yielded ops a.tmps) = true then Oper.wp P o a w K Q else E := by
  rw [if_pos (by simp [Region.wanted, hgd])]
  unfold Oper.wp execOp
  simp only [ho, hx, Instr.loadAt, Instr.sureAddr, Sem.run_bind, Sem.run_pure, Result.andThen_ok, run_loadS hb ty d hu hd hi]
  exact h

/-! ### what is owned stays when another kind's block grows -/
end Go.Proofs.YtlacjhjckkablaaGreatDoor

namespace Go.Proofs.YtlacjhjckkablaaGreatDoor
set_option linter.unusedVariables false
open Go.RowKit

/-- append([]E{}, s...) -/
theorem wpList_clone {α : Type} {en : α → List Value} {P : Program} {w : World} {ops : Array Oper} {rest : List Oper} {o : Oper} {a : Act} {Q : Exit → Act → World → Prop} {s x : Operand} {t e : TypeId} {size bytes : Nat} (T : SlTy P t e size bytes)
    (xs : List α) (hen : ∀ y, (en y).length = size) (hone : ∀ y ∈ xs, ∀ u ∈ en y, u.oneCell' = true) {ad : Option Addr} {cap : Nat} (hs : SlOf w en size ad cap xs) (hbound : xs.length * bytes ≤ 140737488355328) (hne : ad ≠ none)
    (h : ∀ v' w1, Owns w1 w.heap.size e size en v' xs → Below w.heap.size w w1 → wpList P ops Q rest (a.put o.dst v') w1)
    (hgd : o.guard = none := by rfl) (ho : o.op = .call { callee := .builtin .append, args := #[s, x], argTypes := #[t, t] } := by rfl)
    (hs0 : a.eval s = .slice (some ⟨w.heap.size, 0, none⟩) 0 0 := by rfl) (hx : a.eval x = .slice ad xs.length cap := by rfl) : wpList P ops Q (o :: rest) a (w.alloc (.cells #[] e)) := by
  obtain ⟨hu, ⟨i, z, hi, hz, h1, h2, h3⟩, hp, hbp⟩ := T
  obtain ⟨p, rfl⟩ : ∃ p, ad = some p := by cases ad with | none => exact absurd rfl hne | some p => exact ⟨p, rfl⟩
  have hn : xs.length ≤ maxLen := by
    have : xs.length * 1 ≤ xs.length * bytes := Nat.mul_le_mul_left _ hbp
    unfold maxLen
    omega
  have hnews : ∀ j u, (xs.flatMap en)[j]? = some u → (w.alloc (.cells #[] e)).cell? (p.add j) = some u := by
    intro j u hu
    have hj : j < (xs.flatMap en).length := (List.getElem?_eq_some_iff.1 hu).1
    obtain ⟨b, off, e1, e2⟩ := Sl.at' (SlOf.alloc hs (.cells #[] e)) j hj
    cases e1
    rw [Addr.add_lit, e2]
    exact hu
  have hone' : ∀ u ∈ xs.flatMap en, u.oneCell' = true := fun u hu => by
    obtain ⟨y, hm, hy⟩ := List.mem_flatMap.1 hu
    exact hone y hm u hy
  refine wpList_append_own _ hgd s x t ho w.heap.size e i z size bytes hu hi hz h1 h2 h3 hp _ 0 [] hs0 (World.ownsRow_made w #[] 0 (Nat.le_refl _) (Nat.zero_le _) (by simp)) p xs.length cap (xs.flatMap en) hx (by rw [flatMap_length hen]) hnews hone' (by omega) (by rw [Nat.zero_add]; exact hbound) (by simp) ?_
  intro v' w' hown hg _
  refine h v' w' ?_ (((Below.refl _ w).alloc (Nat.le_refl _) _).grown hg (by simp) (fun k hk => by simp [Value.ownBlock] at hk; omega))
  unfold Owns
  simpa using hown

theorem enTx_one (y : List UInt8) : ∀ u ∈ enTx y, u.oneCell' = true := by simp [enTx, Value.oneCell']
theorem enRw_one (y : Int × List UInt8) : ∀ u ∈ enRw y, u.oneCell' = true := by simp [enRw, Value.oneCell']

set_option maxHeartbeats 1000000 in
theorem cloneTx_any (l : List (List UInt8)) (n : Nat) (hn : n = l.length) (a : Option Addr) (cap : Nat) (w : World) (hs : SlX w a cap l) (hr : l.length * 16 ≤ 140737488355328) :
    Calls Tryz.prog 104 #[.slice a n cap] w fun e w' => ∃ v, e = .returned v ∧ Owns w' w.heap.size 9 1 enTx v l ∧ Below w.heap.size w w' := by
  subst hn
  have hq := fun (w : World) (a : Option Addr) (n c : Nat) => Lib.run_eql_slice_nil (P := Tryz.prog) w 31 _ a n c 0 0 Tryz.underlying31
  cases a with
  | none =>
    have h0 : l = [] := List.length_eq_zero_iff.1 (by have := Sl.nil hs rfl; have := Sl.le hs; omega)
    subst h0
    go_enter Tryz.func104, Tryz.ntmps104
    go_wp2_with fail
    go_ret
    exact ⟨_, rfl, Owns.nil _ _ _ _ _, Below.refl _ _⟩
  | some p =>
    go_enter Tryz.func104, Tryz.ntmps104
    go_wp2_with (at_builtin; go_loud (refine wpList_clone txs_ty l enTx_len (fun y _ => enTx_one y) hs hr (by simp) ?_))
    intro v' w1 ho hb
    go_wp2_with fail
    go_ret
    exact ⟨_, rfl, ho, hb⟩
set_option maxHeartbeats 1000000 in
theorem cloneRw_any (l : List (Int × List UInt8)) (n : Nat) (hn : n = l.length) (a : Option Addr) (cap : Nat) (w : World) (hs : SlOf w enRw 2 a cap l) (hr : l.length * 24 ≤ 140737488355328) :
    Calls Tryz.prog 106 #[.slice a n cap] w fun e w' => ∃ v, e = .returned v ∧ Owns w' w.heap.size 178 2 enRw v l ∧ Below w.heap.size w w' := by
  subst hn
  have hq := fun (w : World) (a : Option Addr) (n c : Nat) => Lib.run_eql_slice_nil (P := Tryz.prog) w 109 _ a n c 0 0 Tryz.underlying109
  cases a with
  | none =>
    have h0 : l = [] := List.length_eq_zero_iff.1 (by have := Sl.nil hs rfl; have := Sl.le hs; omega)
    subst h0
    go_enter Tryz.func106, Tryz.ntmps106
    go_wp2_with fail
    go_ret
    exact ⟨_, rfl, Owns.nil _ _ _ _ _, Below.refl _ _⟩
  | some p =>
    go_enter Tryz.func106, Tryz.ntmps106
    go_wp2_with (at_builtin; go_loud (refine wpList_clone rows_ty l enRw_len (fun y _ => enRw_one y) hs hr (by simp) ?_))
    intro v' w1 ho hb
    go_wp2_with fail
    go_ret
    exact ⟨_, rfl, ho, hb⟩
/-- rows of signals: each of one-cell values -/
def OneR {n : Nat} (r : Row n) : Prop := ∀ u ∈ r.en, u.oneCell' = true
set_option maxHeartbeats 1000000 in
theorem cloneSg_any (l : List (Row 19)) (h1 : ∀ r : Row 19, r ∈ l → OneR r) (n : Nat) (hn : n = l.length) (a : Option Addr) (cap : Nat) (w : World) (hs : SlOf w Row.en 19 a cap l) (hr : l.length * 176 ≤ 140737488355328) :
    Calls Tryz.prog 105 #[.slice a n cap] w fun e w' => ∃ v, e = .returned v ∧ Owns w' w.heap.size 82 19 Row.en v l ∧ Below w.heap.size w w' := by
  subst hn
  have hq := fun (w : World) (a : Option Addr) (n c : Nat) => Lib.run_eql_slice_nil (P := Tryz.prog) w 75 _ a n c 0 0 Tryz.underlying75
  cases a with
  | none =>
    have h0 : l = [] := List.length_eq_zero_iff.1 (by have := Sl.nil hs rfl; have := Sl.le hs; omega)
    subst h0
    go_enter Tryz.func105, Tryz.ntmps105
    go_wp2_with fail
    go_ret
    exact ⟨_, rfl, Owns.nil _ _ _ _ _, Below.refl _ _⟩
  | some p =>
    go_enter Tryz.func105, Tryz.ntmps105
    go_wp2_with (at_builtin; go_loud (refine wpList_clone sigs_ty l Row.en_len h1 hs hr (by simp) ?_))
    intro v' w1 ho hb
    go_wp2_with fail
    go_ret
    exact ⟨_, rfl, ho, hb⟩
end Go.Proofs.YtlacjhjckkablaaGreatDoor

namespace Go.Proofs.YtlacjhjckkablaaGreatDoor
set_option linter.unusedVariables false
open Go.RowKit

theorem MsgD.cells_size (d : MsgD) (tv : Value) : (d.cells tv).size = 8 := rfl
theorem MsgD.cells_to (d : MsgD) (tv : Value) : (d.cells tv)[7]? = some tv := rfl
theorem MsgD.cells_set (d : MsgD) (tv v : Value) : (d.cells tv).setIfInBounds 7 v = d.cells v := rfl
theorem TabD.cells_size (d : TabD) (tv : Value) : (d.cells tv).size = 6 := rfl
theorem TabD.cells_to (d : TabD) (tv : Value) : (d.cells tv)[5]? = some tv := rfl
theorem TabD.cells_set (d : TabD) (tv v : Value) : (d.cells tv).setIfInBounds 5 v = d.cells v := rfl
theorem StaD.cells_size (d : StaD) (tv : Value) : (d.cells tv).size = 3 := rfl
theorem StaD.cells_to (d : StaD) (tv : Value) : (d.cells tv)[2]? = some tv := rfl
theorem StaD.cells_set (d : StaD) (tv v : Value) : (d.cells tv).setIfInBounds 2 v = d.cells v := rfl
theorem fdMsg_size {B : Nat} {w : World} {x : MsgD} {cs : List Value} (h : fdMsgN B w x cs) : cs.length = 8 := by
  obtain ⟨v, rfl, _⟩ := h
  rfl
theorem fdMsg_one {B : Nat} {w : World} {x : MsgD} {C : Array Value} (h : fdMsgN B w x C.toList) : C.all (·.oneCell') = true := by
  obtain ⟨v, e, ho⟩ := h
  obtain ⟨a, cap, rfl, _⟩ := ho.shape
  rw [Array.toList_inj.1 e]
  exact MsgD.cells_one _ _ _ _
theorem fdTab_size {B : Nat} {w : World} {x : TabD} {cs : List Value} (h : fdTabN B w x cs) : cs.length = 6 := by
  obtain ⟨v, rfl, _⟩ := h
  rfl
theorem fdTab_one {B : Nat} {w : World} {x : TabD} {C : Array Value} (h : fdTabN B w x C.toList) : C.all (·.oneCell') = true := by
  obtain ⟨v, e, ho⟩ := h
  obtain ⟨a, cap, rfl, _⟩ := ho.shape
  rw [Array.toList_inj.1 e]
  exact TabD.cells_one _ _ _ _
end Go.Proofs.YtlacjhjckkablaaGreatDoor

namespace Go.Proofs.YtlacjhjckkablaaGreatDoor
set_option linter.unusedVariables false
open Go.RowKit

theorem db_zero : (Tryz.prog.info? 37).map (fun i => (i.zero, i.size)) = some (some (.agg zeroDb), 9) := by kernel_rfl
theorem Blk.kindAt {w w' : World} {k : Nat} {C : Array Value} {T : TypeId} (h : w.heap[k]? = some (.cells C T)) (hb : Below w.heap.size w w') : w'.heap[k]? = some (.cells C T) := by
  rw [hb.block k (Array.getElem?_eq_some_iff.1 h).1]; exact h

theorem setCell_at {w : World} {k : Nat} {C : Array Value} {T : TypeId} (h : w.heap[k]? = some (.cells C T)) (j : Nat) (v : Value) : (w.setCell ⟨k, j, none⟩ v).heap[k]? = some (.cells (C.setIfInBounds j v) T) := by
  simp [World.setCell, Array.getElem?_modify, h]
theorem setCell_ne {w : World} {k g : Nat} {o : Option Obj} (h : w.heap[g]? = o) (hk : g ≠ k) (j : Nat) (v : Value) : (w.setCell ⟨k, j, none⟩ v).heap[g]? = o := (Below.heap_setCell _ _ _ _ hk).trans h
theorem Owns.setAt {α : Type} {w : World} {base : Nat} {e T : TypeId} {size : Nat} {en : α → List Value} {u : Value} {xs : List α} (h : Owns w base e size en u xs) {k : Nat} {C : Array Value} (hk : w.heap[k]? = some (.cells C T)) (he : e ≠ T) (j : Nat) (v : Value) : Owns (w.setCell ⟨k, j, none⟩ v) base e size en u xs :=
  h.apt he hk (fun b _ hne => Below.heap_setCell _ _ _ _ hne)
theorem OwnRd.setAt {α : Type} {rd : World → α → List Value → Prop} {w : World} {base : Nat} {e T : TypeId} {size : Nat} {u : Value} {xs : List α} (h : OwnRd w base e rd size u xs) {k : Nat} {C : Array Value} (hk : w.heap[k]? = some (.cells C T)) (he : e ≠ T) (ha : Apt rd T) (j : Nat) (v : Value) : OwnRd (w.setCell ⟨k, j, none⟩ v) base e rd size u xs :=
  h.apt he ha hk (by simp [World.setCell]) (fun b _ hne => Below.heap_setCell _ _ _ _ hne)

end Go.Proofs.YtlacjhjckkablaaGreatDoor
