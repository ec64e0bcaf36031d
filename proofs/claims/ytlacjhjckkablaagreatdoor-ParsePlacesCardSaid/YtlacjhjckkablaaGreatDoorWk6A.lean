/-
  busbarlaw06's works: the source that is tried first is read as it should be.
-/
import Derived.Test.YtlacjhjckkablaaGreatDoorSamA
import Derived.Test.YtlacjhjckkablaaGreatDoorCopDX
import Derived.Test.YtlacjhjckkablaaGreatDoorParX
import Derived.Test.YtlacjhjckkablaaGreatDoorNodD
import Derived.Test.YtlacjhjckkablaaGreatDoorFilM
import Derived.Test.YtlacjhjckkablaaGreatDoorRlxM
import Derived.Test.YtlacjhjckkablaaGreatDoorNodK
import Derived.Test.YtlacjhjckkablaaGreatDoorCopC
import Derived.Test.YtlacjhjckkablaaGreatDoorPrsO
import Derived.Test.YtlacjhjckkablaaGreatDoorHeldP
import Derived.Test.YtlacjhjckkablaaGreatDoorCalm
import Derived.Test.YtlacjhjckkablaaGreatDoorPrsS

namespace Go.Proofs.YtlacjhjckkablaaGreatDoor
set_option linter.unusedVariables false
open Go.RowKit Go.Shelf

def Gives {α : Type} (p : List TokD → PR α) (P : α → Prop) : Prop := ∀ ts x ts', p ts = .ok x ts' → TsB ts → P x
theorem Gives.bind {α β : Type} {p : List TokD → PR α} {f : α → List TokD → PR β} {Q : α → Prop} {P : β → Prop} (hp : Keeps p) (hq : Gives p Q) (hf : ∀ y, Q y → Gives (f y) P) : Gives (fun ts => (p ts).bind f) P := fun ts x ts' e hb => by
  obtain ⟨y, t, h1, h2⟩ := bind_inv e
  exact hf y (hq _ _ _ h1 hb) _ _ _ h2 (hp _ _ _ h1 hb).1
theorem Gives.skip {α β : Type} {p : List TokD → PR α} {f : α → List TokD → PR β} {P : β → Prop} (hp : Keeps p) (hf : ∀ y, Gives (f y) P) : Gives (fun ts => (p ts).bind f) P :=
  Gives.bind (Q := fun _ => True) hp (fun _ _ _ _ _ => trivial) fun y _ => hf y
theorem gives_ok {α : Type} {P : α → Prop} (x : α) (h : P x) : Gives (fun ts => PR.ok x ts) P := fun ts y ts' e hb => by
  cases e
  exact h
theorem to_gives (nm : List UInt8) : Gives (fun ts => toF ts.length [nm] ts) (fun l => l.length ≤ 4000000) := fun ts x ts' e hb => by
  have h1 := (to_ok _ e hb).2.2
  have h2 := hb.2.2
  have h3 := (to_ok _ e hb).1.1.pos
  simp only [List.length_cons, List.length_nil] at h1
  omega
theorem sig_gives : Gives sigR (fun x => x.rs.length ≤ 4000000) :=
  Gives.skip (must_takes _).keeps fun _ => Gives.skip name_takes.keeps fun _ => Gives.skip role_keeps fun _ => Gives.skip (must_takes _).keeps fun _ =>
  Gives.skip (whole_takes _).keeps fun _ => Gives.skip (must_takes _).keeps fun _ => Gives.skip (whole_takes _).keeps fun _ => Gives.skip order_takes.keeps fun _ =>
  Gives.skip (must_takes _).keeps fun _ => Gives.skip frac_takes.keeps fun _ => Gives.skip (must_takes _).keeps fun _ => Gives.skip frac_takes.keeps fun _ => Gives.skip (must_takes _).keeps fun _ =>
  Gives.skip (must_takes _).keeps fun _ => Gives.skip frac_takes.keeps fun _ => Gives.skip (must_takes _).keeps fun _ => Gives.skip frac_takes.keeps fun _ => Gives.skip (must_takes _).keeps fun _ =>
  Gives.skip (next_takes _).keeps fun _ => Gives.skip name_takes.keeps fun _ => Gives.bind (to_keeps _) (to_gives _) fun _ h => gives_ok _ h
def MsgBd (m : MsgD) : Prop := m.sigs.length ≤ 64 ∧ ∀ x ∈ m.sigs, x.rs.length ≤ 4000000
theorem sgs_gives : ∀ (f : Nat) {l r : List SigX} {ts ts' : List TokD}, sgsF f l ts = .ok r ts' → (∀ x ∈ l, x.rs.length ≤ 4000000) → TsB ts → ∀ x ∈ r, x.rs.length ≤ 4000000
  | 0, l, r, ts, ts', h, hl, hb => by
    cases h
    exact hl
  | f + 1, l, r, ts, ts', h, hl, hb => by
    unfold sgsF wrongR at h
    split at h
    · split at h
      · cases h
      · obtain ⟨y, t, h1, h2⟩ := bind_inv h
        refine sgs_gives f h2 (fun x hx => ?_) (sig_takes _ _ _ h1 hb).1
        rcases List.mem_append.1 hx with hx | hx
        · exact hl x hx
        · rw [List.mem_singleton] at hx
          subst hx
          exact sig_gives _ _ _ h1 hb
    · cases h
      exact hl
theorem message_gives : Gives messageR MsgBd :=
  Gives.skip (must_takes _).keeps fun _ => Gives.skip id_takes.keeps fun _ => Gives.skip name_takes.keeps fun _ => Gives.skip (must_takes _).keeps fun _ =>
  Gives.skip (whole_takes _).keeps fun _ => Gives.skip name_takes.keeps fun _ => Gives.bind (Q := fun l : List SigX => l.length ≤ 64 ∧ ∀ x ∈ l, x.rs.length ≤ 4000000) sgs_keeps (fun ts x ts' e hb => ⟨(sgs_ok _ e (by simp) hb).2.2, sgs_gives _ e (fun x hx => by cases hx) hb⟩) fun _ h => gives_ok _ h
theorem mssD_gives : ∀ (f : Nat) {l r : List MsgD} {ts ts' : List TokD}, mssD f l ts = .ok r ts' → l.length ≤ 512 → (∀ m ∈ l, MsgBd m) → TsB ts → (TsB ts' ∧ ts'.length ≤ ts.length) ∧ r.length ≤ 512 ∧ ∀ m ∈ r, MsgBd m
  | 0, l, r, ts, ts', h, hn, hl, hb => by
    cases h
    exact ⟨⟨hb, Nat.le_refl _⟩, hn, hl⟩
  | f + 1, l, r, ts, ts', h, hn, hl, hb => by
    unfold mssD wrongR at h
    split at h
    · split at h
      · cases h
      · rename_i hne
        obtain ⟨y, t, h1, h2⟩ := bind_inv h
        obtain ⟨b1, l1⟩ := message_takes _ _ _ h1 hb
        obtain ⟨z, t2, h3, h4⟩ := bind_inv h2
        obtain ⟨b2, l2⟩ := comm_keeps _ _ _ h3 b1
        obtain ⟨⟨b3, l3⟩, l4, l5⟩ := mssD_gives f h4 (by rw [List.length_append, List.length_cons, List.length_nil]; omega) (fun x hx => by
          rcases List.mem_append.1 hx with hx | hx
          · exact hl x hx
          · rw [List.mem_singleton] at hx
            subst hx
            exact message_gives _ _ _ h1 hb) b2
        exact ⟨⟨b3, by omega⟩, l4, l5⟩
    · cases h
      exact ⟨⟨hb, Nat.le_refl _⟩, hn, hl⟩
theorem table_four {ts ts' : List TokD} {x : TabD} (h : tableR ts = .ok x ts') (hb : TsB ts) : (TsB ts' ∧ ts'.length + 4 ≤ ts.length) ∧ x.rows.length ≤ 256 := by
  unfold tableR at h
  obtain ⟨y1, t1, h1, h⟩ := bind_inv h
  obtain ⟨b1, l1⟩ := must_takes _ _ _ _ h1 hb
  obtain ⟨y2, t2, h2, h⟩ := bind_inv h
  obtain ⟨b2, l2⟩ := id_takes _ _ _ h2 b1
  obtain ⟨y3, t3, h3, h⟩ := bind_inv h
  obtain ⟨b3, l3⟩ := name_takes _ _ _ h3 b2
  obtain ⟨y4, t4, h4, h⟩ := bind_inv h
  obtain ⟨b4, l4, l4'⟩ := rows_ok _ h4 (by simp) b3
  obtain ⟨y5, t5, h5, h⟩ := bind_inv h
  obtain ⟨b5, l5⟩ := must_takes _ _ _ _ h5 b4
  cases h
  exact ⟨⟨b5, by omega⟩, l4'⟩
theorem tbsD_gives : ∀ (f : Nat) {l r : List TabD} {ts ts' : List TokD}, tbsD f l ts = .ok r ts' → (∀ t ∈ l, t.rows.length ≤ 256) → TsB ts → TsB ts' ∧ r.length * 4 + ts'.length ≤ l.length * 4 + ts.length ∧ ∀ t ∈ r, t.rows.length ≤ 256
  | 0, l, r, ts, ts', h, hl, hb => by
    cases h
    exact ⟨hb, Nat.le_refl _, hl⟩
  | f + 1, l, r, ts, ts', h, hl, hb => by
    unfold tbsD at h
    split at h
    · obtain ⟨y, t, h1, h2⟩ := bind_inv h
      obtain ⟨⟨b1, l1⟩, r1⟩ := table_four h1 hb
      obtain ⟨z, t2, h3, h4⟩ := bind_inv h2
      obtain ⟨b2, l2⟩ := comm_keeps _ _ _ h3 b1
      obtain ⟨b3, l3, l4⟩ := tbsD_gives f h4 (fun x hx => by
        rcases List.mem_append.1 hx with hx | hx
        · exact hl x hx
        · rw [List.mem_singleton] at hx
          subst hx
          exact r1) b2
      rw [List.length_append, List.length_cons, List.length_nil] at l3
      exact ⟨b3, by omega, l4⟩
    · cases h
      exact ⟨hb, Nat.le_refl _, hl⟩
theorem verX_keeps : Keeps verX := fun ts x ts' e hb => by
  unfold verX at e
  split at e
  · rename_i hs
    have ht := tail_lt hb
    obtain ⟨y, t, h1, h2⟩ := bind_inv e
    obtain ⟨b1, l1⟩ := next_takes _ _ _ _ h1 (hb.tail (sees_kind hs))
    obtain ⟨z, t2, h3, h4⟩ := bind_inv h2
    obtain ⟨b2, l2⟩ := comm_keeps _ _ _ h3 b1
    cases h4
    exact ⟨b2, by omega⟩
  · cases e
    exact ⟨hb, Nat.le_refl _⟩
/-- bounds of a database that is read -/
structure DbBd (d : DbD) (n : Nat) : Prop where
  nam : d.sta.names.length ≤ 4000000
  mln : d.msgs.length ≤ 512
  msg : ∀ m ∈ d.msgs, MsgBd m
  tln : d.tabs.length * 4 ≤ n
  tab : ∀ t ∈ d.tabs, t.rows.length ≤ 256
theorem db_bd {ts ts' : List TokD} {d : DbD} (h : dbR ts = .ok d ts') (hb : TsB ts) : DbBd d ts.length := by
  unfold dbR at h
  obtain ⟨y1, t1, h1, h⟩ := bind_inv h
  obtain ⟨b1, l1⟩ := comm_keeps _ _ _ h1 hb
  obtain ⟨y2, t2, h2, h⟩ := bind_inv h
  obtain ⟨b2, l2⟩ := verX_keeps _ _ _ h2 b1
  obtain ⟨y3, t3, h3, h⟩ := bind_inv h
  obtain ⟨b3, l3⟩ := must_takes _ _ _ _ h3 b2
  obtain ⟨y4, t4, h4, h⟩ := bind_inv h
  obtain ⟨b4, l4⟩ := must_takes _ _ _ _ h4 b3
  obtain ⟨y5, t5, h5, h⟩ := bind_inv h
  obtain ⟨b5, l5, l5'⟩ := nams_ok _ h5 b4
  obtain ⟨y6, t6, h6, h⟩ := bind_inv h
  obtain ⟨b6, l6⟩ := comm_keeps _ _ _ h6 b5
  obtain ⟨y7, t7, h7, h⟩ := bind_inv h
  obtain ⟨⟨b7, l7⟩, m1, m2⟩ := mssD_gives _ h7 (by simp) (fun x hx => by cases hx) b6
  obtain ⟨y8, t8, h8, h⟩ := bind_inv h
  obtain ⟨b8, l8, m3⟩ := tbsD_gives _ h8 (fun x hx => by cases hx) b7
  unfold endD formR wrongR at h
  split at h
  · cases h
    have := hb.2.2
    have h6p := b6.1.pos
    simp only [List.length_nil] at l5' l8
    exact ⟨by show y5.length ≤ _; omega, m1, m2, by show y8.length * 4 ≤ _; omega, m3⟩
  · cases h
end Go.Proofs.YtlacjhjckkablaaGreatDoor

namespace Go.Proofs.YtlacjhjckkablaaGreatDoor
set_option linter.unusedVariables false
open Go.RowKit Go.Shelf

def nrm6 (d : DbD) : DbD := if d.has then d else { d with ver := ⟨0, 0, []⟩ }
theorem gat6_tabs : ∀ (l : List TabD) (i last : Nat) (d : DbD), 2 ≤ last → last ≤ 4 → gatL i last d (l.map NodeD.tab) = .good { d with tabs := d.tabs ++ l }
  | [], i, last, d, h, _ => by
    show (if last < 2 then GatR.bad 2 i else GatR.good d) = _
    rw [if_neg (by omega), List.append_nil]
  | t :: l, i, last, d, h, h4 => by
    show (if gatB i last (.tab t) then GatR.bad 4 i else gatL (i + 1) 4 (d.add (.tab t)) (l.map NodeD.tab)) = _
    have e : gatB i last (.tab t) = false := by
      unfold gatB
      rw [decide_eq_true (show 2 ≤ last from h), decide_eq_false (show ¬ (NodeD.tab t).rank < last by simp only [NodeD.rank]; omega)]
      rfl
    rw [e, gat6_tabs l (i + 1) 4 _ (by decide) (by decide)]
    simp [DbD.add]
theorem gat6_msgs (r : List TabD) : ∀ (l : List MsgD) (i last : Nat) (d : DbD), 2 ≤ last → last ≤ 3 → gatL i last d (l.map NodeD.msg ++ r.map NodeD.tab) = .good { d with msgs := d.msgs ++ l, tabs := d.tabs ++ r }
  | [], i, last, d, h, _ => by
    rw [List.map_nil, List.nil_append, gat6_tabs r i last d h (by omega), List.append_nil]
  | m :: l, i, last, d, h, h3 => by
    show (if gatB i last (.msg m) then GatR.bad 4 i else gatL (i + 1) 3 (d.add (.msg m)) (l.map NodeD.msg ++ r.map NodeD.tab)) = _
    have e : gatB i last (.msg m) = false := by
      unfold gatB
      rw [decide_eq_true (show 2 ≤ last from h), decide_eq_false (show ¬ (NodeD.msg m).rank < last by simp only [NodeD.rank]; omega)]
      rfl
    rw [e, gat6_msgs r l (i + 1) 3 _ (by decide) (by decide)]
    simp [DbD.add]
theorem gat6_nod (d : DbD) : gatL 0 0 DbD.zero (nodsD d) = .good (nrm6 d) := by
  have h : ∀ (i last : Nat) (e : DbD), last ≤ 1 → gatL i last e (.sta d.sta :: (d.msgs.map .msg ++ d.tabs.map .tab)) = .good { e with sta := d.sta, msgs := e.msgs ++ d.msgs, tabs := e.tabs ++ d.tabs } := fun i last e hl => by
    show (if gatB i last (.sta d.sta) then GatR.bad 4 i else gatL (i + 1) 2 (e.add (.sta d.sta)) (d.msgs.map .msg ++ d.tabs.map .tab)) = _
    have e1 : gatB i last (.sta d.sta) = false := by
      unfold gatB
      rw [decide_eq_false (show ¬ 2 ≤ last by omega), decide_eq_false (show ¬ (NodeD.sta d.sta).rank < last by simp only [NodeD.rank]; omega)]
      rfl
    rw [e1, gat6_msgs d.tabs d.msgs (i + 1) 2 _ (by decide) (by decide)]
    rfl
  unfold nodsD nrm6
  cases hh : d.has
  · rw [show (if false = true then [NodeD.ver d.ver] else []) = [] from rfl, List.nil_append, h 0 0 _ (by decide)]
    cases d
    simp only at hh
    subst hh
    rfl
  · show (if gatB 0 0 (.ver d.ver) then GatR.bad 4 0 else gatL 1 1 (DbD.zero.add (.ver d.ver)) (.sta d.sta :: (d.msgs.map .msg ++ d.tabs.map .tab))) = _
    rw [show gatB 0 0 (.ver d.ver) = false from rfl, h 1 1 _ (by decide)]
    cases d
    simp only at hh
    subst hh
    rfl
/-- a database that is read: without a version that of nothing -/
def VerOK (d : DbD) : Prop := d.has = false → d.ver = ⟨0, 0, []⟩
theorem db_ver {ts ts' : List TokD} {d : DbD} (h : dbR ts = .ok d ts') : VerOK d := by
  unfold dbR at h
  obtain ⟨y1, t1, h1, h⟩ := bind_inv h
  obtain ⟨y2, t2, h2, h⟩ := bind_inv h
  obtain ⟨y3, t3, h3, h⟩ := bind_inv h
  obtain ⟨y4, t4, h4, h⟩ := bind_inv h
  obtain ⟨y5, t5, h5, h⟩ := bind_inv h
  obtain ⟨y6, t6, h6, h⟩ := bind_inv h
  obtain ⟨y7, t7, h7, h⟩ := bind_inv h
  obtain ⟨y8, t8, h8, h⟩ := bind_inv h
  unfold endD formR wrongR at h
  split at h
  · cases h
    unfold VerOK
    intro hh
    unfold verX at h2
    split at h2
    · obtain ⟨x, u, k1, k2⟩ := bind_inv h2
      obtain ⟨z, u2, k3, k4⟩ := bind_inv k2
      cases k4
      cases hh
    · cases h2
      rfl
  · cases h
theorem gat6_read (d : DbD) (h : VerOK d) : gatL 0 0 DbD.zero (nodsD d) = .good d := by
  rw [gat6_nod]
  unfold nrm6
  cases hh : d.has
  · have := h hh
    simp only [Bool.false_eq_true, if_false]
    rw [← this, ← hh]
  · rfl
end Go.Proofs.YtlacjhjckkablaaGreatDoor

namespace Go.Proofs.YtlacjhjckkablaaGreatDoor
set_option linter.unusedVariables false
set_option linter.unusedSimpArgs false
open Go.RowKit Go.Shelf

theorem place_cases (s : List UInt8) :
    (∃ T x, fileR s = .bad (.iface T x)) ∨ (∃ d, DbBd d 1048577 ∧ VerOK d ∧ fileR s = .good (nodsD d) ∧ Stands s 0 ((nodsD d).flatMap nodM) ∧ s.length ≤ 1048576) := by
  cases hw : scanL s with
  | bad v =>
    obtain ⟨T, x, rfl⟩ := scanL_bad hw
    exact .inl ⟨T, x, by unfold fileR; rw [hw]⟩
  | good T =>
    obtain ⟨a1, a2, -, -⟩ := scanL_bd hw
    have hf : fileR s = match sourceR T with
      | .ok l _ => .good l
      | .bad no l c => .bad (faultV no l c) := by unfold fileR; rw [hw]; rfl
    have hsd := source_db T
    rw [hsd] at hf
    cases hd : dbR T with
    | bad no L C =>
      rw [hd] at hf
      exact .inl ⟨_, _, hf⟩
    | ok d t =>
      rw [hd] at hf hsd
      have hb := db_bd hd (scanL_toks hw)
      exact .inr ⟨d, ⟨hb.nam, hb.mln, hb.msg, by have := hb.tln; omega, hb.tab⟩, db_ver hd, hf, source_stands hw (scanL_toks hw) hsd, a1⟩
end Go.Proofs.YtlacjhjckkablaaGreatDoor

namespace Go.Proofs.YtlacjhjckkablaaGreatDoor
set_option linter.unusedVariables false
set_option linter.unusedSimpArgs false
open Go.RowKit Go.Shelf

set_option maxRecDepth 100000 in
set_option maxHeartbeats 8000000 in
theorem where_msg (L K : Int) (C : Array Value) (h0 : C[0]? = some (.int .i64 L)) (h1 : C[1]? = some (.int .i64 K)) (w : World) :
    Calls Tryz.prog 271 #[.agg C] w fun e w' => e = .returned (.agg #[.int .i64 L, .int .i64 K]) ∧ Below w.heap.size w w' := by
  have hb := Blk.new w C 77
  have c0 := hb.cell 0 _ h0
  have c1 := hb.cell 1 _ h1
  have hbx := (Below.refl w.heap.size w).alloc (Nat.le_refl _) (.cells C 77)
  have hsz : (w.alloc (.cells C 77)).heap.size = w.heap.size + 1 := by simp
  have HB := Lib.hid hbx
  clear hbx hb
  go_enter Tryz.func271, Tryz.ntmps271
  go_upto_region 1 with fail
  generalize w.alloc (.cells C 77) = W at *
  obtain ⟨k, hk⟩ : ∃ k, k = w.heap.size := ⟨_, rfl⟩
  rw [← hk] at hsz c0 c1 ⊢
  have HKQ := Lib.hid hk
  clear hk
  go_wp2_with fail
  have hbl : Blk (W.alloc (.cells #[.int .i64 L, .int .i64 K] 28)) (k + 1) #[.int .i64 L, .int .i64 K] := by rw [← hsz]; exact Blk.new W _ _
  have hrun := run_loadS hbl 28 _ Tryz.underlying28 rfl (by kernel_rfl)
  exact bodyPost_ret (v := .agg #[.int .i64 L, .int .i64 K]) (by simp [results, Tryz.results271, asAddr, hrun]) rfl ⟨rfl, HB.out.alloc HB.out.size _⟩
theorem inv_msg (C : Array Value) (w : World) : (invoke (.fn (.method "Where") #[]) #[.iface 77 (.agg C)]).run Tryz.prog w = .ok (.enter 271 #[.agg C]) w := by kernel_rfl
set_option maxRecDepth 100000 in
set_option maxHeartbeats 8000000 in
theorem where_ver (L K : Int) (C : Array Value) (h0 : C[0]? = some (.int .i64 L)) (h1 : C[1]? = some (.int .i64 K)) (w : World) :
    Calls Tryz.prog 269 #[.agg C] w fun e w' => e = .returned (.agg #[.int .i64 L, .int .i64 K]) ∧ Below w.heap.size w w' := by
  have hb := Blk.new w C 30
  have c0 := hb.cell 0 _ h0
  have c1 := hb.cell 1 _ h1
  have hbx := (Below.refl w.heap.size w).alloc (Nat.le_refl _) (.cells C 30)
  have hsz : (w.alloc (.cells C 30)).heap.size = w.heap.size + 1 := by simp
  have HB := Lib.hid hbx
  clear hbx hb
  go_enter Tryz.func269, Tryz.ntmps269
  go_upto_region 1 with fail
  generalize w.alloc (.cells C 30) = W at *
  obtain ⟨k, hk⟩ : ∃ k, k = w.heap.size := ⟨_, rfl⟩
  rw [← hk] at hsz c0 c1 ⊢
  have HKQ := Lib.hid hk
  clear hk
  go_wp2_with fail
  have hbl : Blk (W.alloc (.cells #[.int .i64 L, .int .i64 K] 28)) (k + 1) #[.int .i64 L, .int .i64 K] := by rw [← hsz]; exact Blk.new W _ _
  have hrun := run_loadS hbl 28 _ Tryz.underlying28 rfl (by kernel_rfl)
  exact bodyPost_ret (v := .agg #[.int .i64 L, .int .i64 K]) (by simp [results, Tryz.results269, asAddr, hrun]) rfl ⟨rfl, HB.out.alloc HB.out.size _⟩
theorem inv_ver (C : Array Value) (w : World) : (invoke (.fn (.method "Where") #[]) #[.iface 30 (.agg C)]).run Tryz.prog w = .ok (.enter 269 #[.agg C]) w := by kernel_rfl
set_option maxRecDepth 100000 in
set_option maxHeartbeats 8000000 in
theorem where_sta (L K : Int) (C : Array Value) (h0 : C[0]? = some (.int .i64 L)) (h1 : C[1]? = some (.int .i64 K)) (w : World) :
    Calls Tryz.prog 270 #[.agg C] w fun e w' => e = .returned (.agg #[.int .i64 L, .int .i64 K]) ∧ Below w.heap.size w w' := by
  have hb := Blk.new w C 33
  have c0 := hb.cell 0 _ h0
  have c1 := hb.cell 1 _ h1
  have hbx := (Below.refl w.heap.size w).alloc (Nat.le_refl _) (.cells C 33)
  have hsz : (w.alloc (.cells C 33)).heap.size = w.heap.size + 1 := by simp
  have HB := Lib.hid hbx
  clear hbx hb
  go_enter Tryz.func270, Tryz.ntmps270
  go_upto_region 1 with fail
  generalize w.alloc (.cells C 33) = W at *
  obtain ⟨k, hk⟩ : ∃ k, k = w.heap.size := ⟨_, rfl⟩
  rw [← hk] at hsz c0 c1 ⊢
  have HKQ := Lib.hid hk
  clear hk
  go_wp2_with fail
  have hbl : Blk (W.alloc (.cells #[.int .i64 L, .int .i64 K] 28)) (k + 1) #[.int .i64 L, .int .i64 K] := by rw [← hsz]; exact Blk.new W _ _
  have hrun := run_loadS hbl 28 _ Tryz.underlying28 rfl (by kernel_rfl)
  exact bodyPost_ret (v := .agg #[.int .i64 L, .int .i64 K]) (by simp [results, Tryz.results270, asAddr, hrun]) rfl ⟨rfl, HB.out.alloc HB.out.size _⟩
theorem inv_sta (C : Array Value) (w : World) : (invoke (.fn (.method "Where") #[]) #[.iface 33 (.agg C)]).run Tryz.prog w = .ok (.enter 270 #[.agg C]) w := by kernel_rfl
set_option maxRecDepth 100000 in
set_option maxHeartbeats 8000000 in
theorem where_tab (L K : Int) (C : Array Value) (h0 : C[0]? = some (.int .i64 L)) (h1 : C[1]? = some (.int .i64 K)) (w : World) :
    Calls Tryz.prog 275 #[.agg C] w fun e w' => e = .returned (.agg #[.int .i64 L, .int .i64 K]) ∧ Below w.heap.size w w' := by
  have hb := Blk.new w C 111
  have c0 := hb.cell 0 _ h0
  have c1 := hb.cell 1 _ h1
  have hbx := (Below.refl w.heap.size w).alloc (Nat.le_refl _) (.cells C 111)
  have hsz : (w.alloc (.cells C 111)).heap.size = w.heap.size + 1 := by simp
  have HB := Lib.hid hbx
  clear hbx hb
  go_enter Tryz.func275, Tryz.ntmps275
  go_upto_region 1 with fail
  generalize w.alloc (.cells C 111) = W at *
  obtain ⟨k, hk⟩ : ∃ k, k = w.heap.size := ⟨_, rfl⟩
  rw [← hk] at hsz c0 c1 ⊢
  have HKQ := Lib.hid hk
  clear hk
  go_wp2_with fail
  have hbl : Blk (W.alloc (.cells #[.int .i64 L, .int .i64 K] 28)) (k + 1) #[.int .i64 L, .int .i64 K] := by rw [← hsz]; exact Blk.new W _ _
  have hrun := run_loadS hbl 28 _ Tryz.underlying28 rfl (by kernel_rfl)
  exact bodyPost_ret (v := .agg #[.int .i64 L, .int .i64 K]) (by simp [results, Tryz.results275, asAddr, hrun]) rfl ⟨rfl, HB.out.alloc HB.out.size _⟩
theorem inv_tab (C : Array Value) (w : World) : (invoke (.fn (.method "Where") #[]) #[.iface 111 (.agg C)]).run Tryz.prog w = .ok (.enter 275 #[.agg C]) w := by kernel_rfl
end Go.Proofs.YtlacjhjckkablaaGreatDoor

namespace Go.Proofs.YtlacjhjckkablaaGreatDoor
set_option linter.unusedVariables false
set_option linter.unusedSimpArgs false
open Go.RowKit Go.Shelf

theorem Stands.fn {s : List UInt8} {n : Nat} {M : List Mark} (h : Stands s n M) : ∃ f : Nat → Nat, (∀ j (hj : j < M.length), StandsAt s M[j] (f j)) ∧ ∀ i j, i < j → j < M.length → f i < f j := by
  obtain ⟨ks, h1, h2, -⟩ := h
  have hl := h1.len
  refine ⟨fun j => ks.getD j 0, fun j hj => ?_, fun i j hij hj => ?_⟩
  · have := h1.get hj (by omega)
    simpa [List.getD, show j < ks.length by omega] using this
  · have := (List.pairwise_iff_getElem.1 h2) i j (by omega) (by omega) hij
    simpa [List.getD, show j < ks.length by omega, show i < ks.length by omega] using this
theorem head_len (y : NodeD) : 0 < (headM y).1.length := by cases y <;> simp [headM]
theorem where_node {w : World} {y : NodeD} {cs : List Value} (h : rdNode w y cs) : ∃ (v : Value) (f : FuncId) (C : Array Value), cs = [v] ∧ (∀ W : World, (invoke (.fn (.method "Where") #[]) #[v]).run Tryz.prog W = .ok (.enter f #[.agg C]) W) ∧
    ∀ W : World, Calls Tryz.prog f #[.agg C] W fun e w' => e = .returned (.agg #[.int .i64 (headM y).2.1, .int .i64 (headM y).2.2]) ∧ Below W.heap.size W w' := by
  cases y with
  | ver v => exact ⟨_, _, _, h, inv_ver _, where_ver _ _ _ rfl rfl⟩
  | sta s =>
    obtain ⟨C, h1, a, c, h2, -⟩ := h
    have hc := Array.toList_inj.1 h2
    exact ⟨_, _, _, h1, inv_sta _, where_sta _ _ _ (by rw [hc]; rfl) (by rw [hc]; rfl)⟩
  | msg m =>
    obtain ⟨C, h1, a, c, h2, -⟩ := h
    have hc := Array.toList_inj.1 h2
    exact ⟨_, _, _, h1, inv_msg _, where_msg _ _ _ (by rw [hc]; rfl) (by rw [hc]; rfl)⟩
  | tab t =>
    obtain ⟨C, h1, a, c, h2, -⟩ := h
    have hc := Array.toList_inj.1 h2
    exact ⟨_, _, _, h1, inv_tab _, where_tab _ _ _ (by rw [hc]; rfl) (by rw [hc]; rfl)⟩
theorem wpQuiet_invoke {P : Program} {ops : Array Oper} {C : World → Prop} {Q : Act → Prop} {rest : List Oper} {o : Oper} {a : Act} {name : String} {v r : Value} {f : FuncId} {args : Array Value} (x : Operand) {ts : Array TypeId}
    (hi : ∀ w : World, (invoke (.fn (.method name) #[]) #[v]).run P w = .ok (.enter f args) w)
    (hc : ∀ w, C w → Calls P f args w fun e w' => e = .returned r ∧ C w')
    (h : wpQuiet P ops C Q rest (a.put o.dst r))
    (ho : o.op = .call { callee := .invoke x name, args := #[], argTypes := ts } := by rfl) (hx : a.eval x = v := by rfl) (hgd : Region.wanted o (yielded ops a.tmps) = true := by rfl) : wpQuiet P ops C Q (o :: rest) a := by
  unfold wpQuiet
  rw [if_pos hgd]
  refine ⟨r, fun w hw => ?_, h⟩
  unfold Oper.quietAt
  have e : (execOp a.eval o).run P w = .ok (.enter f args) w := by
    unfold execOp
    simp only [ho, resolve, hx, Sem.run_bind, Sem.run_pure, Result.andThen_ok]
    have e0 : (#[v] ++ Array.map a.eval #[] : Array Value) = #[v] := by simp
    rw [e0]
    exact hi w
  rw [e]
  exact ⟨rfl, hc w hw⟩
end Go.Proofs.YtlacjhjckkablaaGreatDoor

namespace Go.Proofs.YtlacjhjckkablaaGreatDoor
set_option linter.unusedVariables false
open Go.RowKit

theorem apt_fdDbN (b : Nat) {e : TypeId} (he : 9 ≠ e) (hem : 77 ≠ e) (het : 111 ≠ e) (hes : 82 ≠ e) (her : 178 ≠ e) : Apt (fdDbN b) e := fun w w' x cs k C fz ⟨u, v, z, h1, h2, h3, h4⟩ hk hz hb =>
  ⟨u, v, z, h1, h2.apt he hk hb, h3.apt hem (apt_fdMsgN b he hes) hk hz hb, h4.apt het (apt_fdTabN b her) hk hz hb⟩
theorem fdDb_shape {b : Nat} {w : World} {x : DbD} {C : Array Value} (h : fdDbN b w x C.toList) : C.size = 9 ∧ C.all (·.oneCell') = true := by
  obtain ⟨u, v, z, e, h1, h2, h3⟩ := h
  obtain rfl := Array.toList_inj.1 e
  obtain ⟨a, c, rfl, -⟩ := h1.shape
  obtain ⟨a, c, rfl, -⟩ := h2.shape
  obtain ⟨a, c, rfl, -⟩ := h3.shape
  exact ⟨rfl, by unfold DbD.cells; simp [Value.oneCell']⟩
end Go.Proofs.YtlacjhjckkablaaGreatDoor

namespace Go.Proofs.YtlacjhjckkablaaGreatDoor
set_option linter.unusedVariables false
set_option linter.unusedSimpArgs false
open Go.RowKit Go.Shelf

theorem step_storeR {P : Program} {ops : Array Oper} {o : Oper} {a : Act} {w : World} {K : Act → World → Prop} {Q : Exit → Act → World → Prop} {E : Prop} {k : Nat} {old cs : Array Value} (hb : Blk w k old) (ty : TypeId) (x y : Operand)
    (hi : (P.info? ty).map (·.size) = some cs.size) (hs : old.size = cs.size) (h1 : cs.all (·.oneCell') = true) (h : K (a.put o.dst undef) (w.setRow k cs))
    (hgd : o.guard = none := by rfl) (ho : o.op = .store ty x y := by rfl) (hx : a.eval x = .pointer (some ⟨k, 0, none⟩) := by rfl) (hy : a.eval y = .agg cs := by rfl) :
    if Region.wanted o (yielded ops a.tmps) = true then Oper.wp P o a w K Q else E := by
  obtain ⟨T, hb⟩ := hb
  rw [if_pos (by simp [Region.wanted, hgd])]
  unfold Oper.wp execOp
  simp only [ho, hx, hy, Instr.storeAt, Instr.sureAddr, Sem.run_bind, Sem.run_pure, Result.andThen_ok, run_storeVar_row w k T ty old cs hb hi hs h1]
  exact h
theorem yields_loadS {P : Program} {ops : Array Oper} {S : World → Prop} {o : Oper} {a : Act} {k : Nat} {cs : Array Value} (hS : ∀ w, S w → Blk w k cs) (ty : TypeId) (x : Operand) {d : TypeDesc}
    (hu : P.underlying ty = some d) (hi : (P.info? ty).map (·.size) = some cs.size)
    (hgd : Region.wanted o (yielded ops a.tmps) = true := by rfl) (ho : o.op = .load ty x := by rfl) (hx : a.eval x = .pointer (some ⟨k, 0, none⟩) := by rfl) (hd : d.isRow = true := by rfl) : YieldsIf P ops S o (.agg cs) a := by
  refine Or.inl ⟨hgd, fun w hw => ?_⟩
  unfold execOp
  simp only [ho, hx, Instr.loadAt, Instr.sureAddr, Sem.run_bind, Sem.run_pure, Result.andThen_ok, run_loadS (hS w hw) ty d hu hd hi]
theorem fit6 {d : DbD} {n : Nat} (h : DbBd d n) : ∀ x ∈ nodsD d, NodFit x := by
  unfold nodsD
  intro x hx
  rcases List.mem_append.1 hx with hx | hx
  · cases hd : d.has <;> simp [hd] at hx
    subst hx
    trivial
  · rcases List.mem_cons.1 hx with rfl | hx
    · exact h.nam
    · rcases List.mem_append.1 hx with hx | hx
      · obtain ⟨m, hm, rfl⟩ := List.mem_map.1 hx
        have := h.msg m hm
        exact ⟨by have := this.1; omega, this.2⟩
      · obtain ⟨t, ht, rfl⟩ := List.mem_map.1 hx
        have := h.tab t ht
        show t.rows.length ≤ 4000000
        omega
theorem nods_len6 {d : DbD} {n : Nat} (h : DbBd d n) : (nodsD d).length ≤ n + 514 := by
  unfold nodsD
  have h1 := h.mln
  have h2 := h.tln
  have : (if d.has then [NodeD.ver d.ver] else []).length ≤ 1 := by cases d.has <;> simp
  simp only [List.length_append, List.length_cons, List.length_map]
  omega
theorem sl_nodes6 {w : World} {base : Nat} {T : List (NodeD × Nat × Nat)} {d : DbD} {aa : Option Addr} {N ca : Nat} (h : OwnRd w base 72 fdNodT 1 (.slice aa N ca) T) (hf : T.map Prod.fst = nodsD d) : SlRd w rdNode 1 aa ca (nodsD d) := by
  have h2 := h.fst (rd := fdNode) fun x _ cs hc => fd_nodT hc
  rw [hf] at h2
  obtain ⟨a, c, e, hs⟩ := h2.shape
  injection e with e1 e2 e3
  rw [e1, e3]
  exact hs.weak fun _ _ => fd_node
/-- the parts of a source that is read, gathered -/
theorem gather6_any (d : DbD) (hb : DbBd d 1048577) (hv : VerOK d) (n : Nat) (hn : n = (nodsD d).length) (a : Option Addr) (cap : Nat) (w : World) (hs : SlRd w rdNode 1 a cap (nodsD d)) :
    Calls Tryz.prog 13 #[.slice a n cap] w fun e w' => ∃ C : Array Value, e = .returned (.tuple #[.agg C, .nilIface]) ∧ fdDb w' d C.toList ∧ Below w.heap.size w w' := by
  have hl := nods_len6 hb
  refine (gather_any (nodsD d) (fit6 hb) n hn (by omega) a cap w hs).mono ?_
  rintro e w' ⟨v, rfl, hg, hbel⟩
  rw [gat6_read d hv] at hg
  obtain ⟨C, rfl, hf⟩ := hg
  exact ⟨C, rfl, hf, hbel⟩
set_option maxRecDepth 100000 in
set_option maxHeartbeats 8000000 in
theorem read6_good (s : List UInt8) (hs : s.length ≤ 9223372036854775807) (d : DbD) (hd : DbBd d 1048577) (hv : VerOK d) (hf : fileR s = .good (nodsD d)) (w : World) (hW : FileW w) :
    Calls Tryz.prog 56 #[.string ⟨s.toArray⟩] w fun e w' => ∃ C : Array Value, e = .returned (.tuple #[.agg C, .bool true]) ∧ fdDb w' d C.toList ∧ Below w.heap.size w w' := by
  have cF := fun W (h : FileW W) => file_any s hs W h
  rw [hf] at cF
  have cG := fun (W : World) (n : Nat) (hn : n = (nodsD d).length) a cap hsl => gather6_any d hd hv n hn a cap W hsl
  have hbn : Below w.heap.size w (w.alloc (.cells zeroDb 37)) := (Below.refl _ _).alloc (Nat.le_refl _) _
  have HW := Lib.hid (hW.keep hbn)
  have HB := Lib.hid hbn
  have HZ := Lib.hid (heap_alloc_new w (.cells zeroDb 37))
  have hu := Tryz.underlying37
  clear hd hv hf hW hbn
  go_enter Tryz.func56, Tryz.ntmps56
  go_wp2_with fail
  generalize hkq : w.heap.size = k2 at *
  generalize w.alloc (.cells zeroDb 37) = W at *
  have HKQ := Lib.hid hkq
  clear hkq
  with_reducible refine (cF _ HW.out).mono ?_
  rintro e w1 ⟨v, T, rfl, ho, ht, hc, hb⟩
  obtain ⟨a, c, ev, -⟩ := ho.shape
  have hN : T.length = (nodsD d).length := by rw [← ht, List.length_map]
  rw [hN] at ev
  subst ev
  have HS := Lib.hid (sl_nodes6 ho ht)
  have hk2 := (Array.getElem?_eq_some_iff.1 HZ.out).1
  have hs1 := hb.size
  have HSZ := Lib.hid (show k2 < w1.heap.size by omega)
  replace HB := Lib.hid (HB.out.trans (hb.mono (Nat.le_of_lt hk2)))
  replace HZ := Lib.hid (kind_at HZ.out hb)
  obtain ⟨N, hNN⟩ : ∃ N, N = (nodsD d).length := ⟨_, rfl⟩
  have HNN := Lib.hid hNN
  rw [← hNN]
  clear cF hb ho ht hc hN hNN HW hk2 hs1 hu
  go_wp2_with fail
  with_reducible refine (cG _ _ HNN.out _ _ HS.out).mono ?_
  rintro e w2 ⟨C, rfl, hC, hb⟩
  have hs1 := hb.size
  replace HB := Lib.hid (HB.out.trans (hb.mono (Nat.le_of_lt HSZ.out)))
  replace HSZ := Lib.hid (show k2 < w2.heap.size by have := HSZ.out; omega)
  replace HZ := Lib.hid (kind_at HZ.out hb)
  have HC := Lib.hid hC
  obtain ⟨hC9, hC1⟩ := fdDb_shape (b := 0) hC
  have hu := Tryz.underlying37
  clear cG hb hC hs1 HS
  go_upto_region 5 with (refine wpList_newS (Z := zeroDb) (cs := C) 37 (.tmp 6) (.tmp 19) (by rw [hC9]; exact db_zero) (by rw [hC9]; rfl) hC1 ?_)
  have B6 : Blk (w2.alloc (.cells C 37)).drew w2.heap.size C := ⟨_, heap_alloc_new w2 _⟩
  have K2 := (kind_at HZ.out (((Below.refl w2.heap.size w2).alloc (Nat.le_refl _) (.cells C 37)).drew))
  refine wp_region_held_drew (S := fun (w' : World) => Blk w' w2.heap.size C) (by kernel_rfl) B6 (fun hHeld => ?_)
  refine held_take 0 (v := .agg C) rfl (by kernel_rfl) (by kernel_rfl) (by kernel_rfl) (fun _ _ _ h => h) (by assumption) ?_ ?_
  · exact yields_loadS (fun w h => h) 37 (.tmp 6) hu (by rw [hC9]; exact db_size)
  try simp only [Act.put, List.setIfInBounds_toArray, List.set_cons_zero, List.set_cons_succ]
  refine held_take 1 (v := ?_) rfl (by kernel_rfl) (by kernel_rfl) (by kernel_rfl) (fun _ _ _ h => h) (by assumption) ?_ ?_
  rotate_left
  · first | (refine Or.inr ⟨?_, ?_⟩ <;> rfl) | (refine Or.inl ⟨by rfl, ?_⟩; intro w hSw; (try dsimp only at hSw); first | (go_simp; done) | (go_simp; with_reducible rfl))
  try simp only [Act.put, List.setIfInBounds_toArray, List.set_cons_zero, List.set_cons_succ]
  refine held_take 2 (v := ?_) rfl (by kernel_rfl) (by kernel_rfl) (by kernel_rfl) (fun _ _ _ h => h) (by assumption) ?_ ?_
  rotate_left
  · first | (refine Or.inr ⟨?_, ?_⟩ <;> rfl) | (refine Or.inl ⟨by rfl, ?_⟩; intro w hSw; (try dsimp only at hSw); first | (go_simp; done) | (go_simp; with_reducible rfl))
  try simp only [Act.put, List.setIfInBounds_toArray, List.set_cons_zero, List.set_cons_succ]
  have B2 : Blk (w2.alloc (.cells C 37)).drew k2 zeroDb := ⟨_, K2⟩
  have nk : w2.heap.size ≠ k2 := by have := HSZ.out; omega
  refine held_call 3 rfl (by kernel_rfl) (fun K hK => ?_)
  refine step_storeR (cs := C) B2 37 (.tmp 2) (.tmp 21) (by rw [hC9]; exact db_size) (by rw [hC9]; rfl) hC1 ?_
  clear hHeld
  refine hK.out _ _ ?_ (fun hHeld => ?_)
  · exact B6.rowOther nk C
  clear hK K
  try simp only [Act.put, List.setIfInBounds_toArray, List.set_cons_zero, List.set_cons_succ]
  refine held_take 4 (v := ?_) rfl (by kernel_rfl) (by kernel_rfl) (by kernel_rfl) (fun _ _ _ h => h) (by assumption) ?_ ?_
  rotate_left
  · first | (refine Or.inr ⟨?_, ?_⟩ <;> rfl) | (refine Or.inl ⟨by rfl, ?_⟩; intro w hSw; (try dsimp only at hSw); first | (go_simp; done) | (go_simp; with_reducible rfl))
  try simp only [Act.put, List.setIfInBounds_toArray, List.set_cons_zero, List.set_cons_succ]
  refine wpAnyH_done (by kernel_rfl) ?_ _
  go_wp2_with fail
  have hrun := run_loadS (B2.row C) 37 _ hu rfl (by rw [hC9]; exact db_size)
  refine bodyPost_ret (v := .tuple #[.agg C, .bool true]) (by simp [results, Tryz.results56, asAddr, hrun]) rfl ⟨C, rfl, ?_, ?_⟩
  · have hb2 : Below w2.heap.size w2 (w2.alloc (.cells C 37)).drew := ((Below.refl w2.heap.size w2).alloc (Nat.le_refl _) _).drew
    exact apt_fdDbN 0 (by decide) (by decide) (by decide) (by decide) (by decide) _ _ _ _ k2 _ _ (last_fdDb _ _ _ _ HC.out hb2) K2 (by simp [World.setRow]) (fun b _ hb => heap_setRow_other _ _ _ _ hb)
  · have hb2 := (HB.out.trans (((Below.refl w2.heap.size w2).alloc (Nat.le_refl _) (.cells C 37)).drew.mono (Nat.le_of_lt HSZ.out)))
    rw [HKQ.out]
    exact below_row hb2 (Nat.le_refl _) C
end Go.Proofs.YtlacjhjckkablaaGreatDoor

namespace Go.Proofs.YtlacjhjckkablaaGreatDoor
set_option linter.unusedVariables false
open Go.RowKit Go.Shelf

def smallL : List UInt8 := [66, 85, 95, 58, 32, 65, 32, 66, 79, 95, 32, 50, 53, 54, 32, 77, 58, 32, 56, 32, 65, 32, 83, 71, 95, 32, 120, 32, 58, 32, 48, 124, 56, 64, 49, 43, 32, 40, 49, 44, 48, 41, 32, 91, 48, 124, 48, 93, 32, 34, 34, 32, 65]
def dSmall : DbD := ⟨false, ⟨0, 0, []⟩, ⟨1, 1, [[65]]⟩, [⟨1, 8, 256, false, [77], 8, [65], [⟨⟨1, 23, [120], 0, 0, 0, 8, false, false, 1, 1, 0, 1, 0, 1, 0, 1, []⟩, [[65]]⟩]⟩], []⟩
theorem small_file : fileR smallL = .good (nodsD dSmall) := by kernel_rfl
end Go.Proofs.YtlacjhjckkablaaGreatDoor

namespace Go.Proofs.YtlacjhjckkablaaGreatDoor
set_option linter.unusedVariables false
set_option linter.unusedSimpArgs false
open Go.RowKit Go.Shelf

theorem small_bd : DbBd dSmall 1048577 where
  nam := by decide
  mln := by decide
  msg := by
    intro m hm
    simp only [dSmall, List.mem_singleton] at hm
    subst hm
    exact ⟨by decide, fun x hx => by simp only [List.mem_singleton] at hx; subst hx; decide⟩
  tln := by decide
  tab := by intro t ht; cases ht
theorem small_ver : VerOK dSmall := fun _ => rfl
/-- what is read from the small source, field for field -/
theorem small_fields {w : World} {k : Nat} {C : Array Value} (hC : rdDb w dSmall C.toList) (hk : Blk w k C) :
    ∃ (b o c b2 o2 c2 : Nat), w.cell? ⟨k, 7, none⟩ = some (.slice (some ⟨b, o, none⟩) 1 c) ∧ w.cell? ⟨b, o + 2, none⟩ = some (.int .u32 256) ∧ w.cell? ⟨b, o + 7, none⟩ = some (.slice (some ⟨b2, o2, none⟩) 1 c2) ∧ w.cell? ⟨b2, o2 + 2, none⟩ = some (.string ⟨#[120]⟩) ∧ w.cell? ⟨b2, o2 + 6, none⟩ = some (.int .i64 8) := by
  obtain ⟨pa, pn, pb, pm, pc, pt, eC, hN, hM, hT⟩ := hC
  have hc := Array.toList_inj.1 eC
  obtain ⟨b, o, rfl, -, cs, h8, ⟨a2, c2, rfl, hs⟩, hr⟩ := hM.at (by decide) (k := 0) (by decide)
  obtain ⟨b2, o2, e2, -, cs2, h19, ⟨a3, c3, rfl, -⟩, hr2⟩ := hs.at (by decide) (k := 0) (by decide)
  refine ⟨b, o, pm, b2, o2, c2, hk.cell 7 _ (by rw [hc]; rfl), ?_, ?_, ?_, ?_⟩
  · have := hr 2 _ rfl
    simpa [dSmall] using this
  · have := hr 7 _ rfl
    rw [e2] at this
    simpa [dSmall] using this
  · have := hr2 2 _ rfl
    simpa [dSmall] using this
  · have := hr2 6 _ rfl
    simpa [dSmall] using this

set_option maxRecDepth 100000 in
set_option maxHeartbeats 8000000 in
theorem works6_any (w : World) (hW : FileW w) :
    Calls Tryz.prog 12 #[] w fun e w' => e = .returned (.bool true) ∧ Below w.heap.size w w' := by
  have cR := read6_good smallL (by decide) dSmall small_bd small_ver small_file w hW
  simp only [smallL] at cR
  clear hW
  go_enter Tryz.func12, Tryz.ntmps12
  go_wp2_with fail
  with_reducible refine cR.mono ?_
  rintro e w1 ⟨C, rfl, hC, hb⟩
  obtain ⟨hC9, hC1⟩ := fdDb_shape (b := 0) hC
  have hb1 : Below w.heap.size w (w1.alloc (.cells C 37)) := hb.alloc hb.size _
  obtain ⟨b, o, c, b2, o2, c2, f1, f2, f3, f4, f5⟩ := small_fields (fd_db (last_fdDb _ _ _ _ hC ((Below.refl _ _).alloc (Nat.le_refl _) (.cells C 37)))) (Blk.new w1 C 37)
  have HB := Lib.hid hb1
  clear cR hC hb hb1
  go_upto_region 2 with (refine wpList_newS (Z := zeroDb) (cs := C) 37 (.tmp 1) (.tmp 5) (by rw [hC9]; exact db_zero) (by rw [hC9]; rfl) hC1 ?_)
  generalize w1.alloc (.cells C 37) = W at *
  generalize w1.heap.size = k1 at *
  clear hC9 hC1
  go_wp2_with fail
  go_ret
  exact ⟨rfl, HB.out⟩
end Go.Proofs.YtlacjhjckkablaaGreatDoor
