/-
  A database that is handed in, opened. (Printed by gen_open.py.)
-/
import Derived.Test.YtampdbkafkcfdaaGreatDoorPrnPF
import Derived.Test.YtampdbkafkcfdaaGreatDoorVasA
import Derived.Test.YtampdbkafkcfdaaGreatDoorSamA
import Derived.Test.YtampdbkafkcfdaaGreatDoorPlain
import Derived.Test.YtampdbkafkcfdaaGreatDoorSigRd

namespace Go.Proofs.YtampdbkafkcfdaaGreatDoor
set_option linter.unusedVariables false
open Go.RowKit Go.Shelf

/-! ### the parts of a database, gathered again -/
def nrmV (d : DbD) : DbD := if d.has then d else { d with ver := ⟨0, 0, []⟩ }
theorem gat_tabs : ∀ (l : List TabD) (i last : Nat) (d : DbD), 2 ≤ last → last ≤ 4 → gatL i last d (l.map NodeD.tab) = .good { d with tabs := d.tabs ++ l }
  | [], i, last, d, h, _ => by
    show (if last < 2 then GatR.bad 2 i else GatR.good d) = _
    rw [if_neg (by omega), List.append_nil]
  | t :: l, i, last, d, h, h4 => by
    show (if gatB i last (.tab t) then GatR.bad 4 i else gatL (i + 1) 4 (d.add (.tab t)) (l.map NodeD.tab)) = _
    have e : gatB i last (.tab t) = false := by
      unfold gatB
      rw [decide_eq_true (show 2 ≤ last from h), decide_eq_false (show ¬ (NodeD.tab t).rank < last by simp only [NodeD.rank]; omega)]
      rfl
    rw [e, gat_tabs l (i + 1) 4 _ (by decide) (by decide)]
    simp [DbD.add]
theorem gat_msgs (r : List TabD) : ∀ (l : List MsgD) (i last : Nat) (d : DbD), 2 ≤ last → last ≤ 3 → gatL i last d (l.map NodeD.msg ++ r.map NodeD.tab) = .good { d with msgs := d.msgs ++ l, tabs := d.tabs ++ r }
  | [], i, last, d, h, _ => by
    rw [List.map_nil, List.nil_append, gat_tabs r i last d h (by omega), List.append_nil]
  | m :: l, i, last, d, h, h3 => by
    show (if gatB i last (.msg m) then GatR.bad 4 i else gatL (i + 1) 3 (d.add (.msg m)) (l.map NodeD.msg ++ r.map NodeD.tab)) = _
    have e : gatB i last (.msg m) = false := by
      unfold gatB
      rw [decide_eq_true (show 2 ≤ last from h), decide_eq_false (show ¬ (NodeD.msg m).rank < last by simp only [NodeD.rank]; omega)]
      rfl
    rw [e, gat_msgs r l (i + 1) 3 _ (by decide) (by decide)]
    simp [DbD.add]
theorem gat_nod (d : DbD) : gatL 0 0 DbD.zero (nodL d) = .good (nrmV d) := by
  have h : ∀ (i last : Nat) (e : DbD), last ≤ 1 → gatL i last e (.sta d.sta :: (d.msgs.map .msg ++ d.tabs.map .tab)) = .good { e with sta := d.sta, msgs := e.msgs ++ d.msgs, tabs := e.tabs ++ d.tabs } := fun i last e hl => by
    show (if gatB i last (.sta d.sta) then GatR.bad 4 i else gatL (i + 1) 2 (e.add (.sta d.sta)) (d.msgs.map .msg ++ d.tabs.map .tab)) = _
    have e1 : gatB i last (.sta d.sta) = false := by
      unfold gatB
      rw [decide_eq_false (show ¬ 2 ≤ last by omega), decide_eq_false (show ¬ (NodeD.sta d.sta).rank < last by simp only [NodeD.rank]; omega)]
      rfl
    rw [e1, gat_msgs d.tabs d.msgs (i + 1) 2 _ (by decide) (by decide)]
    rfl
  unfold nodL nrmV
  cases hh : d.has
  · rw [show (if false = true then [NodeD.ver d.ver] else []) = [] from rfl, List.nil_append, h 0 0 _ (by decide)]
    cases d
    simp only at hh
    subst hh
    rfl
  · show (if gatB 0 0 (.ver d.ver) then GatR.bad 4 0 else gatL 1 1 (DbD.zero.add (.ver d.ver)) (.sta d.sta :: (d.msgs.map .msg ++ d.tabs.map .tab))) = _
    rw [show gatB 0 0 (.ver d.ver) = false from rfl, h 1 1 _ (by decide)]
    cases d
    simp only at hh
    subst hh
    rfl
theorem pfil_nod (d : DbD) : pfilV (nodL d) = .tuple #[.string ⟨(filT d).toArray⟩, if filN d = 0 then .nilIface else errV (filN d)] := by
  unfold pfilV
  rw [gat_nod, filB_nod, filL_nod]
  cases h : dbB d
  · rw [(fil_bad d h).1, (fil_bad d h).2]
    rfl
  · by_cases hl : (dbT d).length ≤ 1048576
    · rw [(fil_good d h hl).1, (fil_good d h hl).2]
      simp only [if_true]
      rw [if_pos hl]
    · rw [(fil_long d h hl).1, (fil_long d h hl).2]
      simp only [if_true]
      rw [if_neg hl]
      rfl
theorem nod_ok {d : DbD} (h : DbFine d) (hw : DbWf d) : (∀ n ∈ nodL d, NodOK n) ∧ (∀ n ∈ nodL d, NodFit n) ∧ (nodL d).length ≤ 1000000 := by
  have ok := h.ok hw
  have fit := h.fit
  refine ⟨fun n hn => ?_, fun n hn => ?_, ?_⟩
  · unfold nodL at hn
    rcases List.mem_append.1 hn with hn | hn
    · cases hh : d.has
      · rw [hh] at hn; simp at hn
      · rw [hh] at hn
        obtain rfl : n = .ver d.ver := by simpa using hn
        exact ok.tx
    · rcases List.mem_cons.1 hn with rfl | hn
      · exact ⟨ok.nn, ok.nm⟩
      · rcases List.mem_append.1 hn with hn | hn
        · obtain ⟨m, hm, rfl⟩ := List.mem_map.1 hn
          exact ok.ms m hm
        · obtain ⟨t, ht, rfl⟩ := List.mem_map.1 hn
          exact ok.tb t ht
  · unfold nodL at hn
    rcases List.mem_append.1 hn with hn | hn
    · cases hh : d.has
      · rw [hh] at hn; simp at hn
      · rw [hh] at hn
        obtain rfl : n = .ver d.ver := by simpa using hn
        trivial
    · rcases List.mem_cons.1 hn with rfl | hn
      · exact fit.nn
      · rcases List.mem_append.1 hn with hn | hn
        · obtain ⟨m, hm, rfl⟩ := List.mem_map.1 hn
          exact fit.ms m hm
        · obtain ⟨t, ht, rfl⟩ := List.mem_map.1 hn
          exact fit.ts t ht
  · have h1 := h.mn
    have h2 := h.tn
    unfold nodL
    rw [List.length_append, List.length_cons, List.length_append, List.length_map, List.length_map]
    have : (if d.has then [NodeD.ver d.ver] else []).length ≤ 1 := by split <;> simp
    omega
theorem db_len {d : DbD} (ok : DbOK d) (fit : DbFit d) (hb : dbB d = true) : (dbT d).length ≤ 100000000000000 := by
  rw [dbB_eq] at hb
  simp only [Bool.and_eq_true, decide_eq_true_eq] at hb
  obtain ⟨h1, h2, h3, h4⟩ := hb
  have l1 := head_len d ok h1
  have l2 := msgs_len d.msgs ok.ms h3
  have l3 := tabs_len d.tabs ok.tb h4
  have l4 := fit.tt
  unfold dbT
  rw [List.length_append, List.length_append, List.length_append]
  have : ((if d.tabs.isEmpty then [] else [10]) : List UInt8).length ≤ 1 := by split <;> simp
  omega
theorem plain_fil (d : DbD) : ∀ w, LaidT w → Calls Tryz.prog 38 #[if filN d = 0 then .nilIface else errV (filN d), .int .i64 (filN d : Nat)] w fun e w' => e = .returned (.bool true) ∧ Below w.heap.size w w' := by
  intro w hg
  cases h : dbB d
  · rw [(fil_bad d h).1]
    simpa using plain_errno 4 4 (by omega) (by omega) w hg
  · by_cases hl : (dbT d).length ≤ 1048576
    · rw [(fil_good d h hl).1]
      simpa using plain_nil 0 w
    · rw [(fil_long d h hl).1]
      simpa using plain_errno 5 5 (by omega) (by omega) w hg
theorem rd_nrm {w : World} {x : DbD} {D : Array Value} {u v z : Value} (h : rdDb w x (x.cells u v z).toList) : rdDb w (nrmV x) ((nrmV x).cells u v z).toList := by
  obtain ⟨a, p, b, q, c, r, e, h1, h2, h3⟩ := h
  have e2 := Array.toList_inj.1 e
  unfold DbD.cells at e2
  simp only [Array.mk.injEq, List.cons.injEq, and_true, true_and] at e2
  obtain ⟨rfl, rfl, rfl⟩ := e2
  unfold nrmV
  split
  · exact ⟨a, p, b, q, c, r, rfl, h1, h2, h3⟩
  · exact ⟨a, p, b, q, c, r, rfl, h1, h2, h3⟩

theorem fdDb_setAt {w : World} {x : DbD} {l : List Value} (h : fdDb w x l) {k : Nat} {C : Array Value} (hk : w.heap[k]? = some (.cells C 32)) (j : Nat) (v : Value) : fdDb (w.setCell ⟨k, j, none⟩ v) x l := by
  obtain ⟨u, v', z, e, h1, h2, h3⟩ := h
  exact ⟨u, v', z, e, h1.setAt hk (by decide) j v, h2.setAt hk (by decide) (apt_fdMsg (by decide) (by decide)) j v, h3.setAt hk (by decide) (apt_fdTab (by decide)) j v⟩
theorem fd_unver {w : World} {x : DbD} {C : Array Value} (h : fdDb w x C.toList) (hx : x.has = false) : fdDb w (nrmV x) (((C.setIfInBounds 1 (.int .i64 0)).setIfInBounds 2 (.int .i64 0)).setIfInBounds 3 (.string ⟨#[]⟩)).toList := by
  obtain ⟨u, v, z, e, h1, h2, h3⟩ := h
  rw [Array.toList_inj.1 e]
  have e2 : nrmV x = { x with ver := ⟨0, 0, []⟩ } := by unfold nrmV; rw [if_neg (by rw [hx]; decide)]
  rw [e2]
  exact ⟨u, v, z, rfl, h1, h2, h3⟩
theorem fd_ver {w : World} {x : DbD} {C : Array Value} (h : fdDb w x C.toList) (hx : x.has = true) : fdDb w (nrmV x) C.toList := by
  unfold nrmV
  rw [if_pos hx]
  exact h

end Go.Proofs.YtampdbkafkcfdaaGreatDoor

namespace Go.Proofs.YtampdbkafkcfdaaGreatDoor
set_option linter.unusedVariables false
open Go.RowKit Go.ChangeShapes

set_option maxRecDepth 100000 in
theorem flat_row : IsFlat Tryz.prog 63 2 enRw (fun x => In64 x.1 ∧ x.2.length ≤ maxLen) := by
  refine ⟨by kernel_rfl, enRw_len, ?_⟩
  intro H enc w base spare held fuel cs x h
  have h2 : Tryz.prog.cellsOf 2 = 1 := by kernel_rfl
  have h4 : Tryz.prog.cellsOf 9 = 1 := by kernel_rfl
  have h3 : Tryz.prog.cellsOf 63 = 2 := by kernel_rfl
  obtain ⟨y0, y1, n, rfl, hl, z0, z1⟩ := trod_struct2 Tryz.underlying63 h
  rw [h3] at hl
  match cs, hl with
  | [c0, c1], _ =>
    simp only [h2, h4, List.drop_zero, List.drop_succ_cons, List.take_succ_cons, List.take_zero] at z0 z1
    obtain ⟨l, e0, d0, w0⟩ := DataW.trod_int Tryz.underlying2 z0
    obtain ⟨s, e1, d1, w1⟩ := DataW.trod_string Tryz.underlying9 z1
    simp only [List.cons.injEq, and_true] at e0 e1
    subst e0 e1
    exact ⟨(l, s.data.toList), ⟨i64_bd w0, w1⟩, rfl⟩

theorem open_sx {H : Type} {enc : TypeId × Value → H} {w : World} {base : Nat} {held : Bool} {fuel : Nat} {cs : List Value} {x : DataW H × List MemPlace} (h : DataW.trod enc Tryz.prog w base (fun _ => true) held fuel 53 cs = some x) :
    ∃ y : SigX, rdSig w y cs ∧ cs.length = 19 ∧ SxWf y := by
  obtain ⟨d, rs, a, cap, z, rfl, hs, ok, wf, -, -⟩ := open_sig h
  exact ⟨⟨d, rs⟩, ⟨a, cap, rfl, hs⟩, rfl, ⟨wf, fun r hr => Nat.le_trans (ok r hr) (by decide)⟩⟩

set_option maxRecDepth 100000 in
set_option maxHeartbeats 1000000 in
theorem open_ver {H : Type} {enc : TypeId × Value → H} {w : World} {base : Nat} {held : Bool} {fuel : Nat} {cs : List Value} {x : DataW H × List MemPlace} (h : DataW.trod enc Tryz.prog w base (fun _ => true) held fuel 25 cs = some x) :
    ∃ y : VerD, cs = y.cells.toList ∧ y.text.length ≤ maxLen := by
  have k0 : Tryz.prog.cellsOf 23 = 2 := by kernel_rfl
  have k1 : Tryz.prog.cellsOf 9 = 1 := by kernel_rfl
  have kk : Tryz.prog.cellsOf 25 = 3 := by kernel_rfl
  obtain ⟨xs, n, -, rfl, hl, hlen, hf⟩ := DataW.trod_struct Tryz.underlying25 h
  rw [kk] at hl
  clear h
  match xs, hlen with
  | [y0, y1], _ =>
    match cs, hl with
    | [c0, c1, c2], _ =>
      have z0 := hf 0 _ rfl
      have z1 := hf 1 _ rfl
      clear hf
      simp only [List.getElem_toArray, List.getElem_cons_zero, List.getElem_cons_succ, k0, k1, List.drop_zero, List.drop_succ_cons, List.take_succ_cons, List.take_zero, List.getElem?_cons_zero, List.getElem?_cons_succ] at z0 z1
      obtain ⟨p1, p2, e0, d0, -, -⟩ := open_place z0
      obtain ⟨s, e1, d1, w1⟩ := DataW.trod_string Tryz.underlying9 z1
      simp only [List.cons.injEq, and_true] at e0 e1
      obtain ⟨rfl, rfl⟩ := e0
      subst e1
      exact ⟨⟨p1, p2, s.data.toList⟩, rfl, w1⟩

set_option maxRecDepth 100000 in
set_option maxHeartbeats 1000000 in
theorem open_sta {H : Type} {enc : TypeId × Value → H} {w : World} {base : Nat} {held : Bool} {fuel : Nat} {cs : List Value} {x : DataW H × List MemPlace} (h : DataW.trod enc Tryz.prog w base (fun _ => true) held fuel 28 cs = some x) :
    ∃ (y : StaD) (a : Option Addr) (cap : Nat), cs = (y.cells (.slice a y.names.length cap)).toList ∧ SlX w a cap y.names ∧ ∀ r ∈ y.names, r.length ≤ maxLen := by
  have k0 : Tryz.prog.cellsOf 23 = 2 := by kernel_rfl
  have k1 : Tryz.prog.cellsOf 26 = 1 := by kernel_rfl
  have kk : Tryz.prog.cellsOf 28 = 3 := by kernel_rfl
  obtain ⟨xs, n, -, rfl, hl, hlen, hf⟩ := DataW.trod_struct Tryz.underlying28 h
  rw [kk] at hl
  clear h
  match xs, hlen with
  | [y0, y1], _ =>
    match cs, hl with
    | [c0, c1, c2], _ =>
      have z0 := hf 0 _ rfl
      have z1 := hf 1 _ rfl
      clear hf
      simp only [List.getElem_toArray, List.getElem_cons_zero, List.getElem_cons_succ, k0, k1, List.drop_zero, List.drop_succ_cons, List.take_succ_cons, List.take_zero, List.getElem?_cons_zero, List.getElem?_cons_succ] at z0 z1
      obtain ⟨p1, p2, e0, d0, -, -⟩ := open_place z0
      obtain ⟨a1, cap1, l, e1, hs1, ok1, -⟩ := open_texts z1
      simp only [List.cons.injEq, and_true] at e0 e1
      obtain ⟨rfl, rfl⟩ := e0
      subst e1
      exact ⟨⟨p1, p2, l⟩, a1, cap1, rfl, hs1, ok1⟩

set_option maxRecDepth 100000 in
set_option maxHeartbeats 1000000 in
theorem open_msg {H : Type} {enc : TypeId × Value → H} {w : World} {base : Nat} {held : Bool} {fuel : Nat} {cs : List Value} {x : DataW H × List MemPlace} (h : DataW.trod enc Tryz.prog w base (fun _ => true) held fuel 46 cs = some x) :
    ∃ y : MsgD, rdMsg w y cs ∧ cs.length = 8 ∧ MsgWf y := by
  have k0 : Tryz.prog.cellsOf 23 = 2 := by kernel_rfl
  have k1 : Tryz.prog.cellsOf 43 = 1 := by kernel_rfl
  have k2 : Tryz.prog.cellsOf 4 = 1 := by kernel_rfl
  have k3 : Tryz.prog.cellsOf 9 = 1 := by kernel_rfl
  have k4 : Tryz.prog.cellsOf 3 = 1 := by kernel_rfl
  have k5 : Tryz.prog.cellsOf 44 = 1 := by kernel_rfl
  have kk : Tryz.prog.cellsOf 46 = 8 := by kernel_rfl
  obtain ⟨xs, n, -, rfl, hl, hlen, hf⟩ := DataW.trod_struct Tryz.underlying46 h
  rw [kk] at hl
  clear h
  match xs, hlen with
  | [y0, y1, y2, y3, y4, y5, y6], _ =>
    match cs, hl with
    | [c0, c1, c2, c3, c4, c5, c6, c7], _ =>
      have z0 := hf 0 _ rfl
      have z1 := hf 1 _ rfl
      have z2 := hf 2 _ rfl
      have z3 := hf 3 _ rfl
      have z4 := hf 4 _ rfl
      have z5 := hf 5 _ rfl
      have z6 := hf 6 _ rfl
      clear hf
      simp only [List.getElem_toArray, List.getElem_cons_zero, List.getElem_cons_succ, k0, k1, k2, k3, k4, k5, List.drop_zero, List.drop_succ_cons, List.take_succ_cons, List.take_zero, List.getElem?_cons_zero, List.getElem?_cons_succ] at z0 z1 z2 z3 z4 z5 z6
      obtain ⟨p1, p2, e0, d0, -, -⟩ := open_place z0
      obtain ⟨id, e1, d1, w1⟩ := DataW.trod_int Tryz.underlying43 z1
      obtain ⟨wd, e2, d2⟩ := DataW.trod_bool Tryz.underlying4 z2
      obtain ⟨nm, e3, d3, w3⟩ := DataW.trod_string Tryz.underlying9 z3
      obtain ⟨sz, e4, d4, w4⟩ := DataW.trod_int Tryz.underlying3 z4
      obtain ⟨sn, e5, d5, w5⟩ := DataW.trod_string Tryz.underlying9 z5
      obtain ⟨a6, cap6, l, e6, hs6, ok6, -⟩ := open_rd (rd := rdSig) (Q := fun s _ => SxWf s) Tryz.underlying44 (by kernel_rfl) (fun fuel cs x h => open_sx h) z6
      simp only [List.cons.injEq, and_true] at e0 e1 e2 e3 e4 e5 e6
      obtain ⟨rfl, rfl⟩ := e0
      subst e1
      subst e2
      subst e3
      subst e4
      subst e5
      subst e6
      have hb1 := u32_bd w1
      obtain ⟨id, rfl⟩ := Int.eq_ofNat_of_zero_le hb1.1
      exact ⟨⟨p1, p2, id, wd, nm.data.toList, sz, sn.data.toList, l⟩, ⟨a6, cap6, rfl, hs6⟩, rfl, ⟨by have := hb1.2; show id < 4294967296; omega, i64_bd w4, Nat.le_trans w3 (by decide), Nat.le_trans w5 (by decide), fun s hs => by obtain ⟨_, h⟩ := ok6 s hs; exact h⟩⟩

set_option maxRecDepth 100000 in
set_option maxHeartbeats 1000000 in
theorem open_tab {H : Type} {enc : TypeId × Value → H} {w : World} {base : Nat} {held : Bool} {fuel : Nat} {cs : List Value} {x : DataW H × List MemPlace} (h : DataW.trod enc Tryz.prog w base (fun _ => true) held fuel 57 cs = some x) :
    ∃ y : TabD, rdTab w y cs ∧ cs.length = 6 ∧ TabWf y := by
  have k0 : Tryz.prog.cellsOf 23 = 2 := by kernel_rfl
  have k1 : Tryz.prog.cellsOf 43 = 1 := by kernel_rfl
  have k2 : Tryz.prog.cellsOf 4 = 1 := by kernel_rfl
  have k3 : Tryz.prog.cellsOf 9 = 1 := by kernel_rfl
  have k4 : Tryz.prog.cellsOf 55 = 1 := by kernel_rfl
  have kk : Tryz.prog.cellsOf 57 = 6 := by kernel_rfl
  obtain ⟨xs, n, -, rfl, hl, hlen, hf⟩ := DataW.trod_struct Tryz.underlying57 h
  rw [kk] at hl
  clear h
  match xs, hlen with
  | [y0, y1, y2, y3, y4], _ =>
    match cs, hl with
    | [c0, c1, c2, c3, c4, c5], _ =>
      have z0 := hf 0 _ rfl
      have z1 := hf 1 _ rfl
      have z2 := hf 2 _ rfl
      have z3 := hf 3 _ rfl
      have z4 := hf 4 _ rfl
      clear hf
      simp only [List.getElem_toArray, List.getElem_cons_zero, List.getElem_cons_succ, k0, k1, k2, k3, k4, List.drop_zero, List.drop_succ_cons, List.take_succ_cons, List.take_zero, List.getElem?_cons_zero, List.getElem?_cons_succ] at z0 z1 z2 z3 z4
      obtain ⟨p1, p2, e0, d0, -, -⟩ := open_place z0
      obtain ⟨id, e1, d1, w1⟩ := DataW.trod_int Tryz.underlying43 z1
      obtain ⟨wd, e2, d2⟩ := DataW.trod_bool Tryz.underlying4 z2
      obtain ⟨sg, e3, d3, w3⟩ := DataW.trod_string Tryz.underlying9 z3
      obtain ⟨a4, cap4, l, e4, hs4, ok4, -⟩ := open_flat Tryz.underlying55 flat_row z4
      simp only [List.cons.injEq, and_true] at e0 e1 e2 e3 e4
      obtain ⟨rfl, rfl⟩ := e0
      subst e1
      subst e2
      subst e3
      subst e4
      have hb1 := u32_bd w1
      obtain ⟨id, rfl⟩ := Int.eq_ofNat_of_zero_le hb1.1
      exact ⟨⟨p1, p2, id, wd, sg.data.toList, l⟩, ⟨a4, cap4, rfl, hs4⟩, rfl, ⟨by have := hb1.2; show id < 4294967296; omega, Nat.le_trans w3 (by decide), fun r hr => ⟨(ok4 r hr).1, Nat.le_trans (ok4 r hr).2 (by decide)⟩⟩⟩

set_option maxRecDepth 100000 in
set_option maxHeartbeats 1000000 in
theorem open_db {H : Type} {enc : TypeId × Value → H} {w : World} {base : Nat} {held : Bool} {fuel : Nat} {cs : List Value} {x : DataW H × List MemPlace} (h : DataW.trod enc Tryz.prog w base (fun _ => true) held fuel 32 cs = some x) :
    ∃ y : DbD, rdDb w y cs ∧ cs.length = 9 ∧ DbWf y := by
  have k0 : Tryz.prog.cellsOf 4 = 1 := by kernel_rfl
  have k1 : Tryz.prog.cellsOf 25 = 3 := by kernel_rfl
  have k2 : Tryz.prog.cellsOf 28 = 3 := by kernel_rfl
  have k3 : Tryz.prog.cellsOf 29 = 1 := by kernel_rfl
  have k4 : Tryz.prog.cellsOf 30 = 1 := by kernel_rfl
  have kk : Tryz.prog.cellsOf 32 = 9 := by kernel_rfl
  obtain ⟨xs, n, -, rfl, hl, hlen, hf⟩ := DataW.trod_struct Tryz.underlying32 h
  rw [kk] at hl
  clear h
  match xs, hlen with
  | [y0, y1, y2, y3, y4], _ =>
    match cs, hl with
    | [c0, c1, c2, c3, c4, c5, c6, c7, c8], _ =>
      have z0 := hf 0 _ rfl
      have z1 := hf 1 _ rfl
      have z2 := hf 2 _ rfl
      have z3 := hf 3 _ rfl
      have z4 := hf 4 _ rfl
      clear hf
      simp only [List.getElem_toArray, List.getElem_cons_zero, List.getElem_cons_succ, k0, k1, k2, k3, k4, List.drop_zero, List.drop_succ_cons, List.take_succ_cons, List.take_zero, List.getElem?_cons_zero, List.getElem?_cons_succ] at z0 z1 z2 z3 z4
      obtain ⟨hv, e0, d0⟩ := DataW.trod_bool Tryz.underlying4 z0
      obtain ⟨v, e1, w1⟩ := open_ver z1
      obtain ⟨s, a2, cap2, e2, hs2, ok2⟩ := open_sta z2
      obtain ⟨a3, cap3, l, e3, hs3, ok3, -⟩ := open_rd (rd := rdMsg) (Q := fun s _ => MsgWf s) Tryz.underlying29 (by kernel_rfl) (fun fuel cs x h => open_msg h) z3
      obtain ⟨a4, cap4, t, e4, hs4, ok4, -⟩ := open_rd (rd := rdTab) (Q := fun s _ => TabWf s) Tryz.underlying30 (by kernel_rfl) (fun fuel cs x h => open_tab h) z4
      simp only [List.cons.injEq, and_true] at e0 e3 e4
      subst e0
      unfold VerD.cells at e1
      simp only [List.cons.injEq, and_true] at e1
      obtain ⟨rfl, rfl, rfl⟩ := e1
      unfold StaD.cells at e2
      simp only [List.cons.injEq, and_true] at e2
      obtain ⟨rfl, rfl, rfl⟩ := e2
      subst e3
      subst e4
      exact ⟨⟨hv, v, s, l, t⟩, ⟨a2, cap2, a3, cap3, a4, cap4, rfl, hs2, hs3, hs4⟩, rfl, ⟨Nat.le_trans w1 (by decide), fun r hr => Nat.le_trans (ok2 r hr) (by decide), fun m hm => by obtain ⟨_, h⟩ := ok3 m hm; exact h, fun m hm => by obtain ⟨_, h⟩ := ok4 m hm; exact h⟩⟩

end Go.Proofs.YtampdbkafkcfdaaGreatDoor
