/-
  A database without its places: the law's own function.
-/
import Derived.Test.YtampdbkafkcfdaaGreatDoorNodB

namespace Go.Proofs.YtampdbkafkcfdaaGreatDoor
set_option linter.unusedVariables false
open Go.RowKit

def zSig (s : SigX) : SigX := ⟨{ s.d with line := 0, col := 0 }, s.rs⟩
def zMsg (m : MsgD) : MsgD := { m with line := 0, col := 0, sigs := m.sigs.map zSig }
def zTab (t : TabD) : TabD := { t with line := 0, col := 0 }
def bareD (d : DbD) : DbD := ⟨d.has, if d.has then { d.ver with line := 0, col := 0 } else ⟨0, 0, []⟩, { d.sta with line := 0, col := 0 }, d.msgs.map zMsg, d.tabs.map zTab⟩

/-- one number of a signal's place struck -/
def zE (e : Nat) (s : SigX) : SigX := if e = 0 then ⟨{ s.d with line := 0 }, s.rs⟩ else ⟨{ s.d with col := 0 }, s.rs⟩
theorem zE_zero (s : SigX) : zE 1 (zE 0 s) = zSig s := rfl
theorem zSig_zE (e : Nat) (s : SigX) : zSig (zE e s) = zSig s := by unfold zE; split <;> rfl
theorem zE_fix (e : Nat) (s : SigX) (h : zSig s = s) : zE e s = s := by
  obtain ⟨d, rs⟩ := s
  obtain ⟨⟩ := d
  unfold zSig at h
  simp only [SigX.mk.injEq, SigD.mk.injEq, and_true] at h
  obtain ⟨rfl, rfl⟩ := h
  unfold zE
  split <;> rfl
theorem modify_map {α β : Type} (f : α → β) (g : α → α) (hg : ∀ x, f (g x) = f x) : ∀ (l : List α) (k : Nat), (l.modify k g).map f = l.map f
  | [], k => by cases k <;> rfl
  | x :: l, 0 => by
    show f (g x) :: l.map f = f x :: l.map f
    rw [hg]
  | x :: l, k + 1 => by
    show f x :: (l.modify k g).map f = f x :: l.map f
    rw [modify_map f g hg l k]
theorem modify_fix {α : Type} (g : α → α) : ∀ (l : List α) (k : Nat), (∀ x ∈ l, g x = x) → l.modify k g = l
  | [], k, _ => by cases k <;> rfl
  | x :: l, 0, h => by
    show g x :: l = x :: l
    rw [h x (by simp)]
  | x :: l, k + 1, h => by
    show x :: l.modify k g = x :: l
    rw [modify_fix g l k fun y hy => h y (List.mem_cons_of_mem _ hy)]
theorem modify_set {α : Type} (g : α → α) : ∀ (l : List α) (k : Nat) (hk : k < l.length), l.modify k g = l.set k (g l[k])
  | [], k, hk => by simp at hk
  | x :: l, 0, _ => rfl
  | x :: l, k + 1, hk => by
    show x :: l.modify k g = x :: l.set k _
    rw [modify_set g l k (by simpa using hk)]
    rfl
theorem modify_out {α : Type} (g : α → α) : ∀ (l : List α) (k : Nat), l.length ≤ k → l.modify k g = l
  | [], k, _ => by cases k <;> rfl
  | x :: l, 0, h => by simp at h
  | x :: l, k + 1, h => by
    show x :: l.modify k g = x :: l
    rw [modify_out g l k (by simpa using h)]

/-! ### a cell behind what is owned -/
theorem Owns.setBeyond {α : Type} {w : World} {base : Nat} {e : TypeId} {size : Nat} {en : α → List Value} {v : Value} {xs : List α} (h : Owns w base e size en v xs) (g j : Nat) (u : Value) (hj : v.ownBlock = some g → xs.length * size ≤ j) : Owns (w.setCell ⟨g, j, none⟩ u) base e size en v xs := by
  refine ⟨h.1, ?_⟩
  rcases h.2 with h0 | ⟨b, cap, cur, hv, h1, h2, h3, h4, h5, h6⟩
  · exact .inl h0
  · refine .inr ?_
    by_cases hb : b = g
    · subst hb
      refine ⟨b, cap, cur.setIfInBounds j u, hv, h1, setCell_at h2 j u, h3, h4, by simpa using h5, ?_⟩
      rw [Array.toList_setIfInBounds, List.take_set_of_le (hj (by rw [hv]; rfl))]
      exact h6
    · exact ⟨b, cap, cur, hv, h1, setCell_ne h2 hb j u, h3, h4, h5, h6⟩

theorem modify_modify {α : Type} (f g : α → α) : ∀ (l : List α) (k : Nat), (l.modify k f).modify k g = l.modify k fun x => g (f x)
  | [], k => by cases k <;> rfl
  | x :: l, 0 => rfl
  | x :: l, k + 1 => by
    show x :: (l.modify k f).modify k g = x :: l.modify k _
    rw [modify_modify f g l k]

/-- a number of a place is struck in a block of signals: what is owned of signals -/
theorem OwnRd.strike {B : Nat} {w : World} {base : Nat} {v : Value} {sigs : List SigX} (h : OwnRd w base 53 (fdSigN B) 19 v sigs) (g k e : Nat) (he : e < 2) {C : Array Value} (hg : w.heap[g]? = some (.cells C 53)) :
    ∃ sigs', OwnRd (w.setCell ⟨g, k * 19 + e, none⟩ (.int .i64 0)) base 53 (fdSigN B) 19 v sigs' ∧ (v.ownBlock = some g → sigs' = sigs.modify k (zE e)) ∧ (sigs' = sigs ∨ sigs' = sigs.modify k (zE e)) := by
  obtain ⟨rows, h1, h2⟩ := h
  have hlen := h2.len
  have hs : ∀ s cs, fdSigN B w s cs → fdSigN B (w.setCell ⟨g, k * 19 + e, none⟩ (.int .i64 0)) s cs := fun s cs ⟨u, e1, ho⟩ => ⟨u, e1, ho.setAt hg (by decide) _ _⟩
  by_cases hv : v.ownBlock = some g
  · by_cases hk : k < rows.length
    · obtain ⟨b, cap, hvv, -⟩ := h1.block (by omega)
      have hb : b = g := by rw [hvv] at hv; simpa [Value.ownBlock] using hv
      subst hb
      subst hvv
      obtain ⟨r, hr⟩ : ∃ r : Row 19, r.1 = rows[k].1.set e (.int .i64 0) := ⟨⟨rows[k].1.set e (.int .i64 0), by rw [List.length_set]; exact rows[k].2⟩, rfl⟩
      have hk' : k < sigs.length := by omega
      refine ⟨sigs.modify k (zE e), ⟨rows.set k r, h1.setCellRow hk (by omega) _ r hr, ?_⟩, fun _ => rfl, .inr rfl⟩
      rw [modify_set _ _ _ hk']
      refine (h2.mono fun s r' hr' => hs _ _ hr').set ?_
      obtain ⟨u, e1, ho⟩ := hs _ _ (h2.get hk' hk)
      rw [hr, e1]
      unfold zE
      rcases (show e = 0 ∨ e = 1 by omega) with rfl | rfl
      · exact ⟨u, rfl, ho⟩
      · exact ⟨u, rfl, ho⟩
    · refine ⟨sigs, ⟨rows, h1.setBeyond g _ _ fun _ => ?_, h2.mono fun s r' hr' => hs _ _ hr'⟩, fun _ => (modify_out _ _ _ (by omega)).symm, .inl rfl⟩
      have : rows.length * 19 ≤ k * 19 := Nat.mul_le_mul_right _ (by omega)
      omega
  · exact ⟨sigs, ⟨rows, h1.setBeyond g _ _ fun h => absurd h hv, h2.mono fun s r' hr' => hs _ _ hr'⟩, fun h => absurd h hv, .inl rfl⟩

/-- what a struck number makes of a message -/
structure StruckM (g k e : Nat) (m m' : MsgD) (cs : List Value) : Prop where
  bare : zMsg m' = zMsg m
  fix : zMsg m = m → m' = m
  line : m'.line = m.line
  col : m'.col = m.col
  row : ∀ v, cs = (m.cells v).toList → cs = (m'.cells v).toList
  own : ∀ v, cs = (m.cells v).toList → v.ownBlock = some g → m'.sigs = m.sigs.modify k (zE e)
theorem msg_slot {m m' : MsgD} {u v : Value} (h : (m.cells u).toList = (m'.cells v).toList) : u = v := by
  have := congrArg (fun l : List Value => l[7]?) h
  exact Option.some.inj this
theorem struckM {B : Nat} {w : World} {m : MsgD} {cs : List Value} (h : fdMsgN B w m cs) (g k e : Nat) (he : e < 2) {C : Array Value} (hg : w.heap[g]? = some (.cells C 53)) :
    ∃ m', fdMsgN B (w.setCell ⟨g, k * 19 + e, none⟩ (.int .i64 0)) m' cs ∧ StruckM g k e m m' cs := by
  obtain ⟨v, rfl, ho⟩ := h
  obtain ⟨sigs', h1, h3, h2⟩ := ho.strike g k e he hg
  refine ⟨{ m with sigs := sigs' }, ⟨v, rfl, h1⟩, ⟨?_, fun hz => ?_, rfl, rfl, fun u hu => hu, fun u hu hb => ?_⟩⟩
  · unfold zMsg
    rcases h2 with rfl | rfl
    · rfl
    · simp only [modify_map zSig (zE e) (zSig_zE e)]
  · rcases h2 with rfl | rfl
    · rfl
    · have hs : m.sigs.map zSig = m.sigs := congrArg MsgD.sigs hz
      have hall : ∀ s ∈ m.sigs, zE e s = s := fun s hs' => by
        obtain ⟨j, hj, rfl⟩ := List.mem_iff_getElem.1 hs'
        refine zE_fix e _ ?_
        have := congrArg (fun l => l[j]?) hs
        simp only [List.getElem?_map, List.getElem?_eq_getElem hj, Option.map_some, Option.some.injEq] at this
        exact this
      rw [modify_fix _ _ _ hall]
  · have := msg_slot hu
    subst this
    exact h3 hb

theorem All2.change {α β : Type} {R R' : α → β → Prop} {P : α → α → β → Prop} {xs : List α} {ys : List β} (h : All2 R xs ys) (hs : ∀ x y, R x y → ∃ x', R' x' y ∧ P x x' y) :
    ∃ xs', All2 R' xs' ys ∧ xs'.length = xs.length ∧ ∀ j (h1 : j < xs.length) (h2 : j < xs'.length) (h3 : j < ys.length), P xs[j] xs'[j] ys[j] := by
  induction h with
  | nil => exact ⟨[], .nil, rfl, fun j h1 => by simp at h1⟩
  | cons a _ ih =>
    obtain ⟨x', h1, h2⟩ := hs _ _ a
    obtain ⟨xs', h3, h4, h5⟩ := ih
    refine ⟨x' :: xs', .cons h1 h3, by simp [h4], fun j k1 k2 k3 => ?_⟩
    cases j with
    | zero => exact h2
    | succ j => exact h5 j (by simpa using k1) (by simpa using k2) (by simpa using k3)

/-- both numbers of a signal's place struck: all the messages -/
theorem OwnRd.struck {B : Nat} {w : World} {base : Nat} {vm v : Value} {ms : List MsgD} (h : OwnRd w base 46 (fdMsgN B) 8 vm ms) {i k g : Nat} {C : Array Value} (hg : w.heap[g]? = some (.cells C 53)) (hi : i < ms.length)
    (hv : ∃ b cap, vm = .slice (some ⟨b, 0, none⟩) ms.length cap ∧ w.rangeAt b (i * 8) (ms[i].cells v).toList) (hb : v.ownBlock = some g) :
    ∃ ms', OwnRd ((w.setCell ⟨g, k * 19, none⟩ (.int .i64 0)).setCell ⟨g, k * 19 + 1, none⟩ (.int .i64 0)) base 46 (fdMsgN B) 8 vm ms' ∧ ms'.length = ms.length ∧ ms'.map zMsg = ms.map zMsg ∧
      (∀ j (h1 : j < ms.length) (h2 : j < ms'.length), zMsg ms[j] = ms[j] → ms'[j] = ms[j]) ∧ (∀ h2 : i < ms'.length, ms'[i].sigs = ms[i].sigs.modify k zSig ∧ ms'[i].line = ms[i].line ∧ ms'[i].col = ms[i].col) := by
  obtain ⟨rows, h1, h2⟩ := h
  have hlen := h2.len
  have hg2 := setCell_at hg (k * 19 + 0) (.int .i64 0)
  obtain ⟨m1, a1, l1, p1⟩ := h2.change (P := fun x x' (r : Row 8) => StruckM g k 0 x x' r.1) fun x r hr => struckM hr g k 0 (by decide) hg
  obtain ⟨m2, a2, l2, p2⟩ := a1.change (P := fun x x' (r : Row 8) => StruckM g k 1 x x' r.1) fun x r hr => struckM hr g k 1 (by decide) hg2
  have hr : rows[i].1 = (ms[i].cells v).toList := by
    obtain ⟨b, cap, rfl, hrg⟩ := hv
    obtain ⟨a, c, hva, hs⟩ := h1.shape
    obtain ⟨b2, o, rfl, hb2, hc⟩ := SlOf.cells hs Row.en_len (by decide) (show i < rows.length by omega)
    simp only [Value.slice.injEq, Option.some.injEq, Addr.mk.injEq] at hva
    obtain ⟨⟨rfl, rfl, -⟩, -, -⟩ := hva
    refine List.ext_getElem? fun j => ?_
    by_cases hj : j < 8
    · have e1 := hc j hj
      rw [Nat.zero_add] at e1
      have e2 := hrg j _ (List.getElem?_eq_getElem (show j < (ms[i].cells v).toList.length from hj))
      rw [e2] at e1
      rw [List.getElem?_eq_getElem (show j < (ms[i].cells v).toList.length from hj)]
      exact e1.symm
    · rw [List.getElem?_eq_none (by rw [rows[i].2]; omega), List.getElem?_eq_none (show (ms[i].cells v).toList.length ≤ j by show 8 ≤ j; omega)]
  refine ⟨m2, ⟨rows, ?_, a2⟩, by omega, ?_, fun j k1 k2 hz => ?_, fun k2 => ?_⟩
  · exact (h1.apt (by decide) hg (fun b _ hne => Below.heap_setCell _ _ _ _ hne)).apt (by decide) hg2 (fun b _ hne => Below.heap_setCell _ _ _ _ hne)
  · refine List.ext_getElem (by simp; omega) fun j k1 k2 => ?_
    simp only [List.length_map] at k1 k2
    simp only [List.getElem_map]
    rw [(p2 j (by omega) (by omega) (by omega)).bare, (p1 j (by omega) (by omega) (by omega)).bare]
  · have q1 := (p1 j (by omega) (by omega) (by omega)).fix hz
    have q2 := (p2 j (by omega) (by omega) (by omega)).fix (by rw [q1]; exact hz)
    rw [q2, q1]
  · have P1 := p1 i (by omega) (by omega) (by omega)
    have P2 := p2 i (by omega) (by omega) (by omega)
    refine ⟨?_, by rw [P2.line, P1.line], by rw [P2.col, P1.col]⟩
    rw [P2.own v (P1.row v hr) hb, P1.own v hr hb, modify_modify]
    congr 1

/-! ### an element of a list that a call owns -/
theorem OwnRd.at0 {α : Type} {rd : World → α → List Value → Prop} {w : World} {base : Nat} {T : TypeId} {n : Nat} {vm : Value} {xs : List α} (h : OwnRd w base T rd n vm xs) (hn : 0 < n) {i : Nat} (hi : i < xs.length) :
    ∃ b cap, vm = .slice (some ⟨b, 0, none⟩) xs.length cap ∧ base ≤ b ∧ b < w.heap.size ∧ (∃ C, w.heap[b]? = some (.cells C T)) ∧ ∃ cs : List Value, cs.length = n ∧ rd w xs[i] cs ∧ w.rangeAt b (i * n) cs := by
  obtain ⟨rows, h1, h2⟩ := h
  have hlen := h2.len
  have hi' : i < rows.length := by omega
  rcases h1.2 with ⟨hv, h0⟩ | ⟨g, cap, cur, hv, hb, hg, -⟩
  · omega
  · obtain ⟨a, c, hva, hs⟩ := h1.shape
    obtain ⟨b2, o, rfl, hb2, hc⟩ := SlOf.cells hs Row.en_len hn hi'
    rw [hv] at hva
    simp only [Value.slice.injEq, Option.some.injEq, Addr.mk.injEq] at hva
    obtain ⟨⟨rfl, rfl, -⟩, -, -⟩ := hva
    refine ⟨g, cap, by rw [hv, hlen], hb, (Array.getElem?_eq_some_iff.1 hg).1, ⟨cur, hg⟩, rows[i].1, rows[i].2, h2.get hi hi', fun j v hv' => ?_⟩
    have hj : j < n := by
      have := (List.getElem?_eq_some_iff.1 hv').1
      rw [rows[i].2] at this
      exact this
    have := hc j hj
    rw [Nat.zero_add] at this
    rw [this]
    exact hv'

/-- the first two numbers of an element struck -/
theorem OwnRd.place {α : Type} {rd : World → α → List Value → Prop} {w : World} {base : Nat} {T : TypeId} {n m b cap : Nat} {xs : List α} (h : OwnRd w base T rd n (.slice (some ⟨b, 0, none⟩) m cap) xs) (ha : Apt rd T) (hn : 1 < n) {i : Nat} (hi : i < xs.length) (x' : α)
    (hx : ∀ w' cs, rd w' xs[i] cs → rd w' x' ((cs.set 0 (.int .i64 0)).set 1 (.int .i64 0))) :
    OwnRd ((w.setCell ⟨b, i * n, none⟩ (.int .i64 0)).setCell ⟨b, i * n + 1, none⟩ (.int .i64 0)) base T rd n (.slice (some ⟨b, 0, none⟩) m cap) (xs.set i x') := by
  obtain ⟨rows, h1, h2⟩ := h
  have hlen := h2.len
  have hi' : i < rows.length := by omega
  obtain ⟨c, hg⟩ : ∃ c, w.heap[b]? = some (.cells c T) := by
    rcases h1.2 with ⟨hv, h0⟩ | ⟨g, cap, cur, hv, hb, hg, -⟩
    · omega
    · simp only [Value.slice.injEq, Option.some.injEq, Addr.mk.injEq] at hv
      obtain ⟨⟨rfl, -, -⟩, -, -⟩ := hv
      exact ⟨cur, hg⟩
  have hg2 := setCell_at hg (i * n + 0) (.int .i64 0)
  obtain ⟨r, hr⟩ : ∃ r : Row n, r.1 = rows[i].1.set 0 (.int .i64 0) := ⟨⟨rows[i].1.set 0 (.int .i64 0), by rw [List.length_set]; exact rows[i].2⟩, rfl⟩
  obtain ⟨r2, hr2⟩ : ∃ r2 : Row n, r2.1 = r.1.set 1 (.int .i64 0) := ⟨⟨r.1.set 1 (.int .i64 0), by rw [List.length_set]; exact r.2⟩, rfl⟩
  have o1 := h1.setCellRow hi' (show 0 < n by omega) (.int .i64 0) r hr
  have o2 := o1.setCellRow (k := i) (by rw [List.length_set]; exact hi') hn (.int .i64 0) r2 (by rw [hr2, List.getElem_set_self])
  rw [List.set_set] at o2
  refine ⟨rows.set i r2, o2, ?_⟩
  have hk : ∀ x cs, rd w x cs → rd ((w.setCell ⟨b, i * n + 0, none⟩ (.int .i64 0)).setCell ⟨b, i * n + 1, none⟩ (.int .i64 0)) x cs := fun x cs hrd =>
    ha _ _ _ _ _ _ _ (ha _ _ _ _ _ _ _ hrd hg (by simp [World.setCell]) (fun k _ hne => Below.heap_setCell _ _ _ _ hne)) hg2 (by simp [World.setCell]) (fun k _ hne => Below.heap_setCell _ _ _ _ hne)
  refine (h2.mono fun x r' hr' => hk _ _ hr').set ?_
  rw [hr2, hr]
  exact hx _ _ (hk _ _ (h2.get hi hi'))
theorem msg_placed {B : Nat} {w : World} {m : MsgD} {cs : List Value} (h : fdMsgN B w m cs) : fdMsgN B w { m with line := 0, col := 0 } ((cs.set 0 (.int .i64 0)).set 1 (.int .i64 0)) := by
  obtain ⟨v, rfl, ho⟩ := h
  exact ⟨v, rfl, ho⟩
theorem tab_placed {B : Nat} {w : World} {t : TabD} {cs : List Value} (h : fdTabN B w t cs) : fdTabN B w { t with line := 0, col := 0 } ((cs.set 0 (.int .i64 0)).set 1 (.int .i64 0)) := by
  obtain ⟨v, rfl, ho⟩ := h
  exact ⟨v, rfl, ho⟩
end Go.Proofs.YtampdbkafkcfdaaGreatDoor

namespace Go.Proofs.YtampdbkafkcfdaaGreatDoor
set_option linter.unusedVariables false
open Go.RowKit

theorem ne_kind {w : World} {k g : Nat} {C D : Array Value} {T U : TypeId} (h : w.heap[k]? = some (.cells C T)) (h' : w.heap[g]? = some (.cells D U)) (hT : T ≠ U) : k ≠ g := by
  rintro rfl
  rw [h] at h'
  cases h'
  exact hT rfl
/-- the law's copy at hand: its box, the empty place, the result's box, what the copy owns -/
structure BarAt (B k3 k4 : Nat) (d : DbD) (u v z : Value) (w : World) : Prop where
  b3 : w.heap[k3]? = some (.cells (d.cells u v z) 32)
  b4 : w.heap[k4]? = some (.cells #[.int .i64 0, .int .i64 0] 23)
  b2 : w.heap[B + 1]? = some (.cells zeroDb 32)
  nn : Owns w B 9 1 enTx u d.sta.names
  mm : OwnRd w B 46 (fdMsgN B) 8 v d.msgs
  tt : OwnRd w B 57 (fdTabN B) 6 z d.tabs
  lt : B + 1 < k3
theorem BarAt.keep {B k3 k4 : Nat} {d : DbD} {u v z : Value} {w w' : World} (h : BarAt B k3 k4 d u v z w) (hb : Below w.heap.size w w') : BarAt B k3 k4 d u v z w' :=
  ⟨Blk.kindAt h.b3 hb, Blk.kindAt h.b4 hb, Blk.kindAt h.b2 hb, h.nn.keep hb (Nat.le_refl _), h.mm.keep (last_fdMsgN _) hb, h.tt.keep (last_fdTabN _) hb, h.lt⟩
theorem OwnRd.bound {α : Type} {rd : World → α → List Value → Prop} {w : World} {base : Nat} {T : TypeId} {n : Nat} {v : Value} {xs : List α} (h : OwnRd w base T rd n v xs) : xs.length ≤ 9223372036854775807 := by
  obtain ⟨rows, h1, h2⟩ := h
  have := h2.len
  by_cases h0 : 0 < rows.length
  · obtain ⟨g, cap, -, -, -, hle, hm⟩ := h1.block h0
    omega
  · omega
theorem BarAt.box {B k3 k4 : Nat} {d : DbD} {u v z : Value} {w : World} (h : BarAt B k3 k4 d u v z w) (d' : DbD) (j : Nat) (y : Value) (he : (d.cells u v z).setIfInBounds j y = d'.cells u v z) (h1 : d'.sta.names = d.sta.names) (h2 : d'.msgs = d.msgs) (h3 : d'.tabs = d.tabs) :
    BarAt B k3 k4 d' u v z (w.setCell ⟨k3, j, none⟩ y) :=
  ⟨by rw [← he]; exact setCell_at h.b3 j y, setCell_ne h.b4 (Ne.symm (ne_kind h.b3 h.b4 (by decide))) j y, setCell_ne h.b2 (by have := h.lt; omega) j y,
    by rw [h1]; exact h.nn.setAt h.b3 (by decide) j y, by rw [h2]; exact h.mm.setAt h.b3 (by decide) (apt_fdMsgN B (by decide) (by decide)) j y, by rw [h3]; exact h.tt.setAt h.b3 (by decide) (apt_fdTabN B (by decide)) j y, h.lt⟩
/-- a message's place struck -/
theorem BarAt.msg {B k3 k4 : Nat} {d : DbD} {u z : Value} {w : World} {b m cap : Nat} {D : Array Value} (h : BarAt B k3 k4 d u (.slice (some ⟨b, 0, none⟩) m cap) z w) (hb : w.heap[b]? = some (.cells D 46)) {i : Nat} (hi : i < d.msgs.length) :
    BarAt B k3 k4 { d with msgs := d.msgs.set i { d.msgs[i] with line := 0, col := 0 } } u (.slice (some ⟨b, 0, none⟩) m cap) z ((w.setCell ⟨b, i * 8, none⟩ (.int .i64 0)).setCell ⟨b, i * 8 + 1, none⟩ (.int .i64 0)) := by
  have hb2 := setCell_at hb (i * 8 + 0) (.int .i64 0)
  refine ⟨setCell_ne (setCell_ne h.b3 (ne_kind h.b3 hb (by decide)) _ _) (ne_kind h.b3 hb (by decide)) _ _, setCell_ne (setCell_ne h.b4 (ne_kind h.b4 hb (by decide)) _ _) (ne_kind h.b4 hb (by decide)) _ _, setCell_ne (setCell_ne h.b2 (ne_kind h.b2 hb (by decide)) _ _) (ne_kind h.b2 hb (by decide)) _ _,
    (h.nn.setAt hb (by decide) _ _).setAt hb2 (by decide) _ _, h.mm.place (apt_fdMsgN B (by decide) (by decide)) (by decide) hi _ fun w' cs hr => msg_placed hr, (h.tt.setAt hb (by decide) (apt_fdTabN B (by decide)) _ _).setAt hb2 (by decide) (apt_fdTabN B (by decide)) _ _, h.lt⟩
/-- a table's place struck -/
theorem BarAt.tab {B k3 k4 : Nat} {d : DbD} {u v : Value} {w : World} {b m cap : Nat} {D : Array Value} (h : BarAt B k3 k4 d u v (.slice (some ⟨b, 0, none⟩) m cap) w) (hb : w.heap[b]? = some (.cells D 57)) {i : Nat} (hi : i < d.tabs.length) :
    BarAt B k3 k4 { d with tabs := d.tabs.set i { d.tabs[i] with line := 0, col := 0 } } u v (.slice (some ⟨b, 0, none⟩) m cap) ((w.setCell ⟨b, i * 6, none⟩ (.int .i64 0)).setCell ⟨b, i * 6 + 1, none⟩ (.int .i64 0)) := by
  have hb2 := setCell_at hb (i * 6 + 0) (.int .i64 0)
  refine ⟨setCell_ne (setCell_ne h.b3 (ne_kind h.b3 hb (by decide)) _ _) (ne_kind h.b3 hb (by decide)) _ _, setCell_ne (setCell_ne h.b4 (ne_kind h.b4 hb (by decide)) _ _) (ne_kind h.b4 hb (by decide)) _ _, setCell_ne (setCell_ne h.b2 (ne_kind h.b2 hb (by decide)) _ _) (ne_kind h.b2 hb (by decide)) _ _,
    (h.nn.setAt hb (by decide) _ _).setAt hb2 (by decide) _ _, (h.mm.setAt hb (by decide) (apt_fdMsgN B (by decide) (by decide)) _ _).setAt hb2 (by decide) (apt_fdMsgN B (by decide) (by decide)) _ _, h.tt.place (apt_fdTabN B (by decide)) (by decide) hi _ fun w' cs hr => tab_placed hr, h.lt⟩
/-- a signal's place struck -/
theorem BarAt.sig {B k3 k4 : Nat} {d : DbD} {u v vs z : Value} {w : World} {g : Nat} {D : Array Value} (h : BarAt B k3 k4 d u v z w) (hg : w.heap[g]? = some (.cells D 53)) {i k : Nat} (hi : i < d.msgs.length)
    (hv : ∃ b cap, v = .slice (some ⟨b, 0, none⟩) d.msgs.length cap ∧ w.rangeAt b (i * 8) (d.msgs[i].cells vs).toList) (hb : vs.ownBlock = some g) :
    ∃ ms' : List MsgD, BarAt B k3 k4 { d with msgs := ms' } u v z ((w.setCell ⟨g, k * 19, none⟩ (.int .i64 0)).setCell ⟨g, k * 19 + 1, none⟩ (.int .i64 0)) ∧ ms'.length = d.msgs.length ∧ ms'.map zMsg = d.msgs.map zMsg ∧
      (∀ j (h1 : j < d.msgs.length) (h2 : j < ms'.length), zMsg d.msgs[j] = d.msgs[j] → ms'[j] = d.msgs[j]) ∧ (∀ h2 : i < ms'.length, ms'[i].sigs = d.msgs[i].sigs.modify k zSig ∧ ms'[i].line = d.msgs[i].line ∧ ms'[i].col = d.msgs[i].col) := by
  obtain ⟨ms', o1, o2⟩ := h.mm.struck (k := k) hg hi hv hb
  have hg2 := setCell_at hg (k * 19 + 0) (.int .i64 0)
  refine ⟨ms', ⟨setCell_ne (setCell_ne h.b3 (ne_kind h.b3 hg (by decide)) _ _) (ne_kind h.b3 hg (by decide)) _ _, setCell_ne (setCell_ne h.b4 (ne_kind h.b4 hg (by decide)) _ _) (ne_kind h.b4 hg (by decide)) _ _, setCell_ne (setCell_ne h.b2 (ne_kind h.b2 hg (by decide)) _ _) (ne_kind h.b2 hg (by decide)) _ _,
    (h.nn.setAt hg (by decide) _ _).setAt hg2 (by decide) _ _, o1, (h.tt.setAt hg (by decide) (apt_fdTabN B (by decide)) _ _).setAt hg2 (by decide) (apt_fdTabN B (by decide)) _ _, h.lt⟩, o2⟩
theorem BarAt.cell {B k3 k4 : Nat} {d : DbD} {u v z : Value} {w : World} (h : BarAt B k3 k4 d u v z w) (j : Nat) (y : Value) (hy : (d.cells u v z)[j]? = some y) : w.cell? ⟨k3, j, none⟩ = some y ∧ w.frozen? ⟨k3, j, none⟩ = false := by
  have : Blk w k3 (d.cells u v z) := ⟨_, h.b3⟩
  exact ⟨this.cell j y hy, this.free j⟩

/-- the messages struck so far -/
def MsT (x : DbD) (k : Nat) (ms : List MsgD) : Prop := ms.length = x.msgs.length ∧ ms.map zMsg = x.msgs.map zMsg ∧ ∀ r (h : r < ms.length), r < k → zMsg ms[r] = ms[r]
/-- the message in hand: q signals struck -/
def MsI (k ns q : Nat) (ms : List MsgD) : Prop := ∀ h : k < ms.length, ms[k].line = 0 ∧ ms[k].col = 0 ∧ ms[k].sigs.length = ns ∧ ∀ t (ht : t < ms[k].sigs.length), t < q → zSig ms[k].sigs[t] = ms[k].sigs[t]
theorem MsT.start (x : DbD) : MsT x 0 x.msgs := ⟨rfl, rfl, fun r h h0 => by omega⟩
theorem MsT.place {x : DbD} {k : Nat} {ms : List MsgD} (h : MsT x k ms) (hk : k < ms.length) : MsT x k (ms.set k { ms[k] with line := 0, col := 0 }) := by
  obtain ⟨h1, h2, h3⟩ := h
  refine ⟨by rw [List.length_set]; exact h1, ?_, fun r hr hlt => ?_⟩
  · rw [← h2]
    refine List.ext_getElem (by simp) fun j k1 k2 => ?_
    simp only [List.length_map, List.length_set] at k1 k2
    simp only [List.getElem_map, List.getElem_set]
    split
    · rename_i e
      subst e
      rfl
    · rfl
  · rw [List.length_set] at hr
    simp only [List.getElem_set_ne (show k ≠ r by omega)]
    exact h3 r hr hlt
theorem MsI.start {k : Nat} {ms : List MsgD} (hk : k < ms.length) : MsI k ms[k].sigs.length 0 (ms.set k { ms[k] with line := 0, col := 0 }) := by
  intro h
  simp only [List.getElem_set_self]
  exact ⟨trivial, trivial, trivial, fun t ht h0 => by omega⟩
theorem MsT.struck {x : DbD} {k : Nat} {ms ms' : List MsgD} (h : MsT x k ms) (h1 : ms'.length = ms.length) (h2 : ms'.map zMsg = ms.map zMsg) (h3 : ∀ j (k1 : j < ms.length) (k2 : j < ms'.length), zMsg ms[j] = ms[j] → ms'[j] = ms[j]) : MsT x k ms' := by
  refine ⟨h1.trans h.1, h2.trans h.2.1, fun r hr hlt => ?_⟩
  have hf := h.2.2 r (by omega) hlt
  rw [h3 r (by omega) hr hf]
  exact hf
theorem MsI.next {k ns q : Nat} {ms ms' : List MsgD} (h : MsI k ns q ms) (hk : k < ms.length) (h3 : ∀ h2 : k < ms'.length, ms'[k].sigs = ms[k].sigs.modify q zSig ∧ ms'[k].line = ms[k].line ∧ ms'[k].col = ms[k].col) : MsI k ns (q + 1) ms' := by
  intro hk'
  obtain ⟨e1, e2, e3⟩ := h3 hk'
  obtain ⟨a1, a2, a3, a4⟩ := h hk
  refine ⟨by rw [e2]; exact a1, by rw [e3]; exact a2, by rw [e1, List.length_modify]; exact a3, ?_⟩
  rw [e1]
  intro t ht hlt
  rw [List.length_modify] at ht
  simp only [List.getElem_modify]
  split
  · rfl
  · exact a4 t ht (by omega)
theorem MsT.next {x : DbD} {k ns : Nat} {ms : List MsgD} (h : MsT x k ms) (hi : MsI k ns ns ms) : MsT x (k + 1) ms := by
  refine ⟨h.1, h.2.1, fun r hr hlt => ?_⟩
  by_cases e : r = k
  · subst e
    obtain ⟨a1, a2, a3, a4⟩ := hi hr
    have hs : ms[r].sigs.map zSig = ms[r].sigs := by
      refine List.ext_getElem (by simp) fun j k1 k2 => ?_
      simp only [List.getElem_map]
      exact a4 j k2 (by omega)
    unfold zMsg
    rw [hs, ← a1]
    generalize ms[r] = m at *
    obtain ⟨⟩ := m
    simp only at a1 a2
    subst a1 a2
    rfl
  · exact h.2.2 r hr (by omega)
theorem MsT.done {x : DbD} {ms : List MsgD} (h : MsT x x.msgs.length ms) : ms = x.msgs.map zMsg := by
  rw [← h.2.1]
  refine List.ext_getElem (by simp) fun j k1 k2 => ?_
  simp only [List.getElem_map]
  exact (h.2.2 j k1 (by have := h.1; omega)).symm

/-- the tables struck so far -/
def TabT (x : DbD) (k : Nat) (ts : List TabD) : Prop := ts.length = x.tabs.length ∧ ∀ r (h1 : r < ts.length) (h2 : r < x.tabs.length), ts[r] = if r < k then zTab x.tabs[r] else x.tabs[r]
theorem TabT.start (x : DbD) : TabT x 0 x.tabs := ⟨rfl, fun r h1 h2 => by rw [if_neg (Nat.not_lt_zero _)]⟩
theorem TabT.next {x : DbD} {k : Nat} {ts : List TabD} (h : TabT x k ts) (hk : k < ts.length) : TabT x (k + 1) (ts.set k { ts[k] with line := 0, col := 0 }) := by
  refine ⟨by rw [List.length_set]; exact h.1, fun r h1 h2 => ?_⟩
  rw [List.length_set] at h1
  have hr := h.2 r h1 h2
  by_cases e : k = r
  · subst e
    rw [List.getElem_set_self, if_pos (by omega), hr, if_neg (by omega)]
    rfl
  · rw [List.getElem_set_ne e, hr]
    by_cases hlt : r < k
    · rw [if_pos hlt, if_pos (by omega)]
    · rw [if_neg hlt, if_neg (by omega)]
theorem TabT.done {x : DbD} {ts : List TabD} (h : TabT x x.tabs.length ts) : ts = x.tabs.map zTab := by
  refine List.ext_getElem (by rw [List.length_map]; exact h.1) fun j k1 k2 => ?_
  rw [List.length_map] at k2
  rw [List.getElem_map, h.2 j k1 k2, if_pos k2]

set_option maxRecDepth 100000 in
set_option maxHeartbeats 8000000 in
theorem bare_any (x : DbD) (hf : DbFit x) (w : World) (cs : Array Value) (hx : rdDb w x cs.toList) :
    Calls Tryz.prog 9 #[.agg cs] w fun e w' => ∃ C : Array Value, e = .returned (.agg C) ∧ fdDbN w.heap.size w' (bareD x) C.toList ∧ Below w.heap.size w w' := by
  obtain ⟨c1, c2, e0⟩ : ∃ (h1 : cs.size = 9) (h2 : cs.all (·.oneCell') = true), True := by
    obtain ⟨a, cap, b, cb, c, cc, ecs, -⟩ := hx
    rw [Array.toList_inj.1 ecs]
    exact ⟨rfl, DbD.cells_one _ _ _ _ _ _ _ _ _ _, trivial⟩
  obtain ⟨zb, zz, hz2, hbz⟩ := box2 w cs zeroDb 32 32
  have hu := Tryz.underlying32
  have C0 := Lib.hid (copyDb_anyN x hf _ cs (last_rdDb _ _ _ _ hx hbz) w.heap.size hbz.size)
  have HBZ := Lib.hid hbz
  have K2 := Lib.hid (show ((w.alloc (.cells cs 32)).alloc (.cells zeroDb 32)).heap[w.heap.size + 1]? = some (.cells zeroDb 32) by simpa using heap_alloc_new (w.alloc (.cells cs 32)) (.cells zeroDb 32))
  clear hx
  go_enter Tryz.func9, Tryz.ntmps9
  go_wp2_with (refine wpList_loadS zb 32 (.tmp 1) hu (by rw [c1]; exact db_size) ?_)
  with_reducible refine C0.out.mono ?_
  rintro e w1 ⟨C, rfl, hfd, hb⟩
  have hb1 := bstep HBZ.out hb (Nat.le_refl _)
  have k2 := Blk.kindAt K2.out hb
  obtain ⟨u, v, z, eC, h1, h2, h3⟩ := hfd
  obtain rfl : C = x.cells u v z := Array.toList_inj.1 eC
  clear eC
  have q0 := DbD.cells_size x u v z
  have q1 : (x.cells u v z).all (·.oneCell') = true := by
    obtain ⟨a4, c4, rfl, -⟩ := h1.shape
    obtain ⟨a5, c5, rfl, -⟩ := h2.shape
    obtain ⟨a6, c6, rfl, -⟩ := h3.shape
    exact DbD.cells_one _ _ _ _ _ _ _ _ _ _
  have hz1 : w.heap.size + 2 ≤ w1.heap.size := Nat.le_trans (by simp) hb.size
  have A0 : Hid (∀ o : Unit, BarAt w.heap.size w1.heap.size (w1.heap.size + 1) x u v z ((w1.alloc (.cells (x.cells u v z) 32)).alloc (.cells #[.int .i64 0, .int .i64 0] 23))) := Lib.hid fun _ => by
    have b1 : Below w1.heap.size w1 (w1.alloc (.cells (x.cells u v z) 32)) := (Below.refl _ _).alloc (Nat.le_refl _) _
    have b2 : Below w1.heap.size w1 ((w1.alloc (.cells (x.cells u v z) 32)).alloc (.cells #[.int .i64 0, .int .i64 0] 23)) := b1.alloc (by simp) _
    exact ⟨by rw [Below.heap_alloc _ _ _ (by simp)]; exact heap_alloc_new w1 _, by simpa using heap_alloc_new (w1.alloc (.cells (x.cells u v z) 32)) (.cells #[.int .i64 0, .int .i64 0] 23), Blk.kindAt k2 b2, h1.keep b2 (Nat.le_refl _), h2.keep (last_fdMsgN _) b2, h3.keep (last_fdTabN _) b2, by omega⟩
  have HB1 := Lib.hid hb1
  have HZ1 := Lib.hid hz1
  clear h1 h2 h3 k2 hb hb1 hz1 zb zz hz2 hbz
  go_upto_region 3 with (refine wpList_newS (Z := zeroDb) (cs := x.cells u v z) 32 (.tmp 3) (.tmp 9) (by rw [q0]; exact db_zero) (by rw [q0]; rfl) q1 ?_)
  have a0 := A0.out ()
  have hb0 : Below w.heap.size w ((w1.alloc (.cells (x.cells u v z) 32)).alloc (.cells #[.int .i64 0, .int .i64 0] 23)) := (HB1.out.alloc (by have := HZ1.out; omega) _).alloc (by have := HZ1.out; simp; omega) _
  have hk3 : w.heap.size ≤ w1.heap.size := by have := HZ1.out; omega
  have HB0 := Lib.hid hb0
  clear A0 HB1 HZ1 HBZ C0 K2 hb0 q0 q1
  generalize w1.heap.size = k3 at *
  generalize (w1.alloc (.cells (x.cells u v z) 32)).alloc (.cells #[.int .i64 0, .int .i64 0] 23) = W1 at *
  have f1 := a0.cell 1 (.int .i64 x.ver.line) rfl
  have f2 := a0.cell 2 (.int .i64 x.ver.col) rfl
  have p0 := Blk.cell ⟨_, a0.b4⟩ 0 (.int .i64 0) rfl
  have p1 := Blk.cell ⟨_, a0.b4⟩ 1 (.int .i64 0) rfl
  have A1 := Lib.hid ((a0.box { x with ver := { x.ver with line := 0 } } 1 (.int .i64 0) rfl rfl rfl rfl).box { x with ver := { x.ver with line := 0, col := 0 } } 2 (.int .i64 0) rfl rfl rfl rfl)
  have HBA := Lib.hid (below_set (below_set HB0.out hk3 1 (.int .i64 0)) hk3 2 (.int .i64 0))
  clear a0 HB0
  go_upto_region 4 with fail
  have a1 := A1.out
  clear A1 p0 p1
  generalize (W1.setCell ⟨k3, 1, none⟩ (.int .i64 0)).setCell ⟨k3, 2, none⟩ (.int .i64 0) = W4 at *
  have f0 := (a1.cell 0 (.bool x.has) rfl).1
  have f1 := a1.cell 1 (.int .i64 0) rfl
  have f2 := a1.cell 2 (.int .i64 0) rfl
  have f3 := a1.cell 3 (.string ⟨x.ver.text.toArray⟩) rfl
  have a2 := ((a1.box { x with ver := { x.ver with line := 0, col := 0 } } 1 (.int .i64 0) rfl rfl rfl rfl).box { x with ver := { x.ver with line := 0, col := 0 } } 2 (.int .i64 0) rfl rfl rfl rfl).box { x with ver := ⟨0, 0, []⟩ } 3 (.string ⟨#[]⟩) rfl rfl rfl rfl
  have A2 := Lib.hid a2
  have HB2 := Lib.hid (below_set (below_set (below_set HBA.out hk3 1 (.int .i64 0)) hk3 2 (.int .i64 0)) hk3 3 (.string ⟨#[]⟩))
  have A1 := Lib.hid a1
  clear a1 a2
  go_upto_if 16 with fail
  go_cut [16] (fun s ws => s = .bool (!x.has) ∧ BarAt w.heap.size k3 (k3 + 1) { x with ver := if x.has then { x.ver with line := 0, col := 0 } else ⟨0, 0, []⟩ } u v z ws ∧ Below w.heap.size w ws)
  case first =>
    cases hx : x.has
    · go_wp2_with fail
      go_meet
      case rel =>
        refine ⟨by rw [hx]; rfl, ?_, HB2.out⟩
        rw [if_neg (by rw [hx]; decide)]
        exact A2.out
    · go_wp2_with fail
      go_meet
      case rel =>
        refine ⟨by rw [hx]; rfl, ?_, HBA.out⟩
        rw [if_pos hx]
        exact A1.out
  case rest =>
  obtain ⟨rfl, a3, hb3⟩ := hcut
  clear HB2 A2 A1 f0 f1 f2 f3 HBA
  obtain ⟨V, hV⟩ : ∃ V : VerD, (if x.has then { x.ver with line := 0, col := 0 } else ⟨0, 0, []⟩) = V := ⟨_, rfl⟩
  rw [hV] at a3
  have HV := Lib.hid hV
  clear hV
  have f4 := a3.cell 4 (.int .i64 x.sta.line) rfl
  have f5 := a3.cell 5 (.int .i64 x.sta.col) rfl
  have p0 := Blk.cell ⟨_, a3.b4⟩ 0 (.int .i64 0) rfl
  have p1 := Blk.cell ⟨_, a3.b4⟩ 1 (.int .i64 0) rfl
  have A4 := Lib.hid ((a3.box { x with ver := V, sta := { x.sta with line := 0 } } 4 (.int .i64 0) rfl rfl rfl rfl).box { x with ver := V, sta := { x.sta with line := 0, col := 0 } } 5 (.int .i64 0) rfl rfl rfl rfl)
  have HB4 := Lib.hid (below_set (below_set hb3 hk3 4 (.int .i64 0)) hk3 5 (.int .i64 0))
  clear a3 hb3
  go_upto_region 7 with fail
  have a4 := A4.out
  have hb4 := HB4.out
  clear A4 HB4 p0 p1 f4 f5 c1 c2 e0
  obtain ⟨wc, hwc⟩ : ∃ y, y = wc := ⟨_, rfl⟩
  subst hwc
  generalize (wc.setCell ⟨k3, 4, none⟩ (.int .i64 0)).setCell ⟨k3, 5, none⟩ (.int .i64 0) = W6 at *
  obtain ⟨va, vc, rfl, -⟩ := a4.mm.shape
  obtain ⟨ta, tc, rfl, -⟩ := a4.tt.shape
  have st0 := MsT.start x
  have A6 := Lib.hid a4
  clear a4
  go_wp2_with fail
  go_loopw [5, 6] (fun i j wr => ∃ (k : Nat) (ms : List MsgD), k ≤ x.msgs.length ∧ i = .int .i64 k ∧ MsT x k ms ∧ BarAt w.heap.size k3 (k3 + 1) ⟨x.has, V, { x.sta with line := 0, col := 0 }, ms, x.tabs⟩ u (.slice va x.msgs.length vc) (.slice ta x.tabs.length tc) wr ∧ Below w.heap.size w wr) (fun i _ _ => x.msgs.length - (intOf i).toNat)
  case atStart => exact ⟨0, x.msgs, Nat.zero_le _, rfl, st0, A6.out, hb4⟩
  case round =>
    obtain ⟨k, ms, hk, rfl, hms, ha, hbel⟩ := hrel
    have f7 : wr.cell? ⟨k3, 7, none⟩ = some (.slice va x.msgs.length vc) := (ha.cell 7 _ rfl).1
    by_cases hlt : k < x.msgs.length
    · have hk2 : k < ms.length := by have := hms.1; omega
      have hkb : k + 1 ≤ 4000000 := by have := hf.mm; omega
      obtain ⟨b, cap, hv, hbB, hbl, ⟨D, hD⟩, cs', hcl, hfd, hrg⟩ := ha.mm.at0 (by decide) hk2
      simp only [Value.slice.injEq] at hv
      obtain ⟨rfl, -, -⟩ := hv
      obtain ⟨vs, rfl, -⟩ := hfd
      have p0 := Blk.cell ⟨_, ha.b4⟩ 0 (.int .i64 0) rfl
      have p1 := Blk.cell ⟨_, ha.b4⟩ 1 (.int .i64 0) rfl
      have g0 : wr.cell? ⟨b, k * 8, none⟩ = some (.int .i64 ms[k].line) := by simpa using hrg 0 (.int .i64 ms[k].line) rfl
      have g1 := hrg 1 (.int .i64 ms[k].col) rfl
      have r0 : wr.frozen? ⟨b, k * 8, none⟩ = false := Blk.free ⟨_, hD⟩ _
      have r1 : wr.frozen? ⟨b, k * 8 + 1, none⟩ = false := Blk.free ⟨_, hD⟩ _
      have A7 := Lib.hid (show BarAt w.heap.size k3 (k3 + 1) ⟨x.has, V, { x.sta with line := 0, col := 0 }, ms.set k { ms[k] with line := 0, col := 0 }, x.tabs⟩ u (.slice (some ⟨b, 0, none⟩) x.msgs.length vc) (.slice ta x.tabs.length tc) _ from ha.msg hD hk2)
      have HB7 := Lib.hid (below_set (below_set hbel hbB (k * 8) (.int .i64 0)) hbB (k * 8 + 1) (.int .i64 0))
      have HM := Lib.hid (hms.place hk2)
      have HI := Lib.hid (MsI.start hk2)
      clear ha hbel hrg hD hcl hms
      go_upto_region 11 with fail
      have a7 := A7.out
      have hb7 := HB7.out
      have hm7 := HM.out
      have hi7 := HI.out
      clear A7 HB7 HM HI p0 p1 g0 g1 r0 r1 f7
      generalize (wr.setCell ⟨b, k * 8, none⟩ (.int .i64 0)).setCell ⟨b, k * 8 + 1, none⟩ (.int .i64 0) = wx at *
      generalize ms[k].sigs.length = ns at *
      generalize ms.set k { ms[k] with line := 0, col := 0 } = ms2 at *
      have HA7 := Lib.hid a7
      clear a7
      go_wp2_with fail
      go_loopw [6] (fun j ww => ∃ (q : Nat) (m3 : List MsgD), q ≤ ns ∧ j = .int .i64 q ∧ MsT x k m3 ∧ MsI k ns q m3 ∧ BarAt w.heap.size k3 (k3 + 1) ⟨x.has, V, { x.sta with line := 0, col := 0 }, m3, x.tabs⟩ u (.slice (some ⟨b, 0, none⟩) x.msgs.length vc) (.slice ta x.tabs.length tc) ww ∧ Below w.heap.size w ww) (fun j _ => ns - (intOf j).toNat)
      case atStart => exact ⟨0, ms2, Nat.zero_le _, rfl, hm7, hi7, HA7.out, hb7⟩
      case round =>
        obtain ⟨q, m3, hq, rfl, hm3, hi3, ha, hbel⟩ := hrel
        obtain ⟨ww, hww⟩ : ∃ y, y = wr := ⟨_, rfl⟩
        subst hww
        have hk3' : k < m3.length := by have := hm3.1; omega
        have f7 : ww.cell? ⟨k3, 7, none⟩ = some (.slice (some ⟨b, 0, none⟩) x.msgs.length vc) := (ha.cell 7 _ rfl).1
        obtain ⟨b', cap', hv, -, -, -, cs', hcl, hfd, hrg⟩ := ha.mm.at0 (by decide) hk3'
        have hve := hv
        simp only [Value.slice.injEq, Option.some.injEq, Addr.mk.injEq, and_true] at hv
        obtain ⟨rfl, -, -⟩ := hv
        obtain ⟨vs, rfl, hos⟩ := hfd
        obtain ⟨sa, sc, hvs, -⟩ := hos.shape
        rw [(hi3 hk3').2.2.1] at hvs
        have g6 := hrg 7 vs rfl
        have HRG := Lib.hid hrg
        have HVE := Lib.hid hve
        clear hrg hve hcl
        by_cases hlq : q < ns
        · have hq' : q < m3[k].sigs.length := by rw [(hi3 hk3').2.2.1]; exact hlq
          have hqb : q + 1 ≤ 9223372036854775807 := Nat.le_trans (Nat.succ_le_of_lt hq') hos.bound
          obtain ⟨g, gc, hv2, hgB, hgl, ⟨G, hG⟩, ss, hsl, hfs, hsr⟩ := hos.at0 (by decide) hq'
          rw [(hi3 hk3').2.2.1] at hv2
          obtain ⟨vr, rfl, -⟩ := hfs
          subst hv2
          have p0 := Blk.cell ⟨_, ha.b4⟩ 0 (.int .i64 0) rfl
          have p1 := Blk.cell ⟨_, ha.b4⟩ 1 (.int .i64 0) rfl
          have g0 : ww.cell? ⟨g, q * 19, none⟩ = some (.int .i64 m3[k].sigs[q].d.line) := by simpa using hsr 0 (.int .i64 m3[k].sigs[q].d.line) rfl
          have g1 := hsr 1 (.int .i64 m3[k].sigs[q].d.col) rfl
          have r0 : ww.frozen? ⟨g, q * 19, none⟩ = false := Blk.free ⟨_, hG⟩ _
          have r1 : ww.frozen? ⟨g, q * 19 + 1, none⟩ = false := Blk.free ⟨_, hG⟩ _
          obtain ⟨m4, A8, l4, z4, x4, i4⟩ := ha.sig (k := q) hG (i := k) hk3' ⟨b, cap', HVE.out, HRG.out⟩ rfl
          have HA8 := Lib.hid A8
          have HM8 := Lib.hid (hm3.struck l4 z4 x4)
          have HI8 := Lib.hid (hi3.next hk3' i4)
          have HB8 := Lib.hid (below_set (below_set hbel hgB (q * 19) (.int .i64 0)) hgB (q * 19 + 1) (.int .i64 0))
          clear A8 l4 z4 x4 i4 ha hbel hG hos hsr hsl hm3 hi3 HRG HVE hvs
          go_wp2_with (go_still_tail 10, (by kernel_rfl))
          go_roundw
          case rel => exact ⟨q + 1, m4, by omega, by go_num, HM8.out, HI8.out, HA8.out.keep (Go.below_drewN (Below.refl _ _) 1), bstep HB8.out (Go.below_drewN (Below.refl _ _) 1) (Nat.le_refl _)⟩
          case measure => simp [intOf]; omega
        · have e : q = ns := by omega
          subst e
          subst hvs
          have HA9 := Lib.hid ha
          have HB9 := Lib.hid hbel
          have HM9 := Lib.hid (hm3.next hi3)
          clear ha hbel hm3 hi3 HRG HVE hos
          go_wp2_with fail
          go_roundw
          case rel => exact ⟨k + 1, m3, by omega, by go_num, HM9.out, HA9.out, HB9.out⟩
          case measure => simp [intOf]; omega
    · have e : k = x.msgs.length := by omega
      subst e
      obtain rfl := hms.done
      have HAT := Lib.hid ha
      have HBT := Lib.hid hbel
      clear ha hbel hms
      have t0 := TabT.start x
      have hbt := HBT.out
      obtain ⟨w8, hw8⟩ : ∃ y, y = wr := ⟨_, rfl⟩
      subst hw8
      go_wp2_with fail
      go_loopw [7] (fun i wr => ∃ (k : Nat) (ts : List TabD), k ≤ x.tabs.length ∧ i = .int .i64 k ∧ TabT x k ts ∧ BarAt w.heap.size k3 (k3 + 1) ⟨x.has, V, { x.sta with line := 0, col := 0 }, x.msgs.map zMsg, ts⟩ u (.slice va x.msgs.length vc) (.slice ta x.tabs.length tc) wr ∧ Below w.heap.size w wr) (fun i _ => x.tabs.length - (intOf i).toNat)
      case atStart => exact ⟨0, x.tabs, Nat.zero_le _, rfl, t0, HAT.out, hbt⟩
      case round =>
        obtain ⟨k, ts, hk, rfl, hts, ha, hbel⟩ := hrel
        obtain ⟨ww, hww⟩ : ∃ y, y = wr := ⟨_, rfl⟩
        subst hww
        have f8 : ww.cell? ⟨k3, 8, none⟩ = some (.slice ta x.tabs.length tc) := (ha.cell 8 _ rfl).1
        by_cases hlt : k < x.tabs.length
        · have hk2 : k < ts.length := by have := hts.1; omega
          have hkb : k + 1 ≤ 4000000 := by have := hf.tt; omega
          obtain ⟨b, cap, hv, hbB, hbl, ⟨D, hD⟩, cs', hcl, hfd, hrg⟩ := ha.tt.at0 (by decide) hk2
          simp only [Value.slice.injEq] at hv
          obtain ⟨rfl, -, -⟩ := hv
          obtain ⟨vs, rfl, -⟩ := hfd
          have p0 := Blk.cell ⟨_, ha.b4⟩ 0 (.int .i64 0) rfl
          have p1 := Blk.cell ⟨_, ha.b4⟩ 1 (.int .i64 0) rfl
          have g0 : ww.cell? ⟨b, k * 6, none⟩ = some (.int .i64 ts[k].line) := by simpa using hrg 0 (.int .i64 ts[k].line) rfl
          have g1 := hrg 1 (.int .i64 ts[k].col) rfl
          have r0 : ww.frozen? ⟨b, k * 6, none⟩ = false := Blk.free ⟨_, hD⟩ _
          have r1 : ww.frozen? ⟨b, k * 6 + 1, none⟩ = false := Blk.free ⟨_, hD⟩ _
          have A7 := Lib.hid (show BarAt w.heap.size k3 (k3 + 1) ⟨x.has, V, { x.sta with line := 0, col := 0 }, x.msgs.map zMsg, ts.set k { ts[k] with line := 0, col := 0 }⟩ u (.slice va x.msgs.length vc) (.slice (some ⟨b, 0, none⟩) x.tabs.length tc) _ from ha.tab hD hk2)
          have HB7 := Lib.hid (below_set (below_set hbel hbB (k * 6) (.int .i64 0)) hbB (k * 6 + 1) (.int .i64 0))
          have HM := Lib.hid (hts.next hk2)
          clear ha hbel hrg hD hcl hts
          go_wp2_with fail
          go_roundw
          case rel => exact ⟨k + 1, _, by omega, by go_num, HM.out, A7.out, HB7.out⟩
          case measure => simp [intOf]; omega
        · have e : k = x.tabs.length := by omega
          subst e
          obtain rfl := hts.done
          have hbar : (⟨x.has, V, { x.sta with line := 0, col := 0 }, x.msgs.map zMsg, x.tabs.map zTab⟩ : DbD) = bareD x := by
            unfold bareD
            rw [HV.out]
          rw [hbar] at ha
          have HA := Lib.hid ha
          have HB := Lib.hid hbel
          have b3 : Blk ww k3 _ := ⟨_, ha.b3⟩
          have b2 : Blk ww (w.heap.size + 1) _ := ⟨_, ha.b2⟩
          have q0 := DbD.cells_size (bareD x) u (.slice va x.msgs.length vc) (.slice ta x.tabs.length tc)
          have q1 : ((bareD x).cells u (.slice va x.msgs.length vc) (.slice ta x.tabs.length tc)).all (·.oneCell') = true := by
            obtain ⟨a4, c4, rfl, -⟩ := ha.nn.shape
            exact DbD.cells_one _ _ _ _ _ _ _ _ _ _
          clear ha hbel hts hbar
          generalize hE : (bareD x).cells u (.slice va x.msgs.length vc) (.slice ta x.tabs.length tc) = E at *
          have HE := Lib.hid hE
          clear hE
          go_wp2_with (first | (refine wpList_loadS b3 32 (.tmp 3) hu (by rw [q0]; exact db_size) ?_) | (refine wpList_storeS (cs := E) b2 32 (.tmp 2) (.tmp 69) (by rw [q0]; exact db_size) (by rw [q0]; rfl) q1 ?_))
          have hrun := run_loadS (b2.row E) 32 _ hu rfl (by rw [q0]; exact db_size)
          have hb6 := below_row HB.out (show w.heap.size ≤ w.heap.size + 1 by omega) E
          refine bodyPost_ret (v := .agg E) (by simp [results, Tryz.results9, Act.put, asAddr, hrun]) rfl ⟨E, rfl, ?_, hb6⟩
          rw [← HE.out]
          have hh := HA.out
          refine ⟨u, .slice va x.msgs.length vc, .slice ta x.tabs.length tc, rfl, ?_, ?_, ?_⟩
          · exact Owns.apt hh.nn (by decide) hh.b2 (fun b _ hne => heap_setRow_other _ _ _ _ hne)
          · exact OwnRd.apt hh.mm (by decide) (apt_fdMsgN _ (by decide) (by decide)) hh.b2 (by simp [World.setRow]) (fun b _ hne => heap_setRow_other _ _ _ _ hne)
          · exact OwnRd.apt hh.tt (by decide) (apt_fdTabN _ (by decide)) hh.b2 (by simp [World.setRow]) (fun b _ hne => heap_setRow_other _ _ _ _ hne)
end Go.Proofs.YtampdbkafkcfdaaGreatDoor
