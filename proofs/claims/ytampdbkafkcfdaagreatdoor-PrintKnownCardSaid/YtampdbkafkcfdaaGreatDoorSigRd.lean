/-
  A signal that is handed in, opened: its nineteen cells.
-/
import Derived.Test.YtampdbkafkcfdaaGreatDoorPrnX
import Derived.Test.YtampdbkafkcfdaaGreatDoorPrnM
import Derived.Deep.Strs

namespace Go.Proofs.YtampdbkafkcfdaaGreatDoor
set_option linter.unusedVariables false
open Go.RowKit Go.Shelf

def tkI (l n : Int) : Int := if l < n then 0 else l - n - 64
set_option maxHeartbeats 1000000 in
theorem take_any (g : Nat) (l n : Int) (hl : -1000 ≤ l ∧ l ≤ 100000000) (hn : 0 ≤ n ∧ n ≤ 9223372036854775807) (w : World) (hb : Blk w g #[.int .i64 l]) :
    Calls Tryz.prog 18 #[.pointer (some ⟨g, 0, none⟩), .int .i64 n] w fun e w' => e = .returned (.tuple #[]) ∧ w' = w.setCell ⟨g, 0, none⟩ (.int .i64 (tkI l n)) := by
  have f0 := hb.cell 0 _ rfl
  have f1 := hb.free 0
  by_cases h : l < n
  · have HT := Lib.hid (show tkI l n = 0 by unfold tkI; rw [if_pos h])
    generalize tkI l n = z at *
    go_enter Tryz.func18, Tryz.ntmps18
    go_wp2_with fail
    refine ⟨rfl, .tuple #[], by simp [results, Tryz.results18], rfl, ?_⟩
    rw [HT.out]
  · have HT := Lib.hid (show tkI l n = l - n - 64 by unfold tkI; rw [if_neg h])
    generalize tkI l n = z at *
    go_enter Tryz.func18, Tryz.ntmps18
    go_wp2_with fail
    refine ⟨rfl, .tuple #[], by simp [results, Tryz.results18], rfl, ?_⟩
    rw [HT.out]
end Go.Proofs.YtampdbkafkcfdaaGreatDoor

namespace Go.Proofs.YtampdbkafkcfdaaGreatDoor
set_option linter.unusedVariables false
open Go.RowKit Go.ChangeShapes

theorem slX_of {w : World} {a : Option Addr} {cap : Nat} (xs : List ByteArray) (h : Sl w a xs.length cap 1 (xs.flatMap enStr)) : SlX w a cap (xs.map fun s => s.data.toList) := by
  have e : (xs.map fun s : ByteArray => s.data.toList).flatMap enTx = xs.flatMap enStr := by
    rw [List.flatMap_map]
    rfl
  unfold SlX SlOf
  rw [List.length_map, e]
  exact h
theorem open_texts {H : Type} {enc : TypeId × Value → H} {w : World} {base : Nat} {held : Bool} {fuel : Nat} {cs : List Value} {d : DataW H} {ps : List MemPlace} (h : DataW.trod enc Tryz.prog w base (fun _ => true) held fuel 26 cs = some (d, ps)) :
    ∃ (a : Option Addr) (cap : Nat) (rs : List (List UInt8)), cs = [.slice a rs.length cap] ∧ SlX w a cap rs ∧ (∀ x ∈ rs, x.length ≤ maxLen) ∧
      ((d = .nil ∧ rs = [] ∧ cap = 0) ∨ ∃ els sp, d = .slice els sp ∧ els.length + sp.length = cap) := by
  obtain ⟨a, cap, xs, rfl, hs, hok, hd⟩ := open_flat Tryz.underlying26 (flat_string Tryz.underlying9 (by kernel_rfl)) h
  refine ⟨a, cap, xs.map fun s => s.data.toList, by rw [List.length_map], slX_of xs hs, ?_, ?_⟩
  · intro x hx
    obtain ⟨s, hs, rfl⟩ := List.mem_map.1 hx
    exact hok s hs
  · rcases hd with ⟨h1, rfl, h2⟩ | h1
    · exact .inl ⟨h1, rfl, h2⟩
    · exact .inr h1

/-- its numbers fit -/
structure SigWf (d : SigD) : Prop where
  ro : In64 d.role
  br : d.branch < 18446744073709551616
  st : In64 d.start
  sz : In64 d.size
  s1 : In64 d.sn
  s2 : In64 d.sd
  o1 : In64 d.on
  o2 : In64 d.od
  m1 : In64 d.mn
  m2 : In64 d.md
  x1 : In64 d.xn
  x2 : In64 d.xd
  nm : d.name.length ≤ maxLen
  un : d.unit.length ≤ maxLen

def SigD.data {H : Type} (d : SigD) (z : DataW H) : DataW H := .agg [.agg [.lit (.int .i64 d.line), .lit (.int .i64 d.col)], .lit (.string d.name), .lit (.int .i64 d.role), .lit (.int .u64 (d.branch : Nat)), .lit (.int .i64 d.start), .lit (.int .i64 d.size), .lit (.bool d.moto), .lit (.bool d.signed),
  .agg [.lit (.int .i64 d.sn), .lit (.int .i64 d.sd)], .agg [.lit (.int .i64 d.on), .lit (.int .i64 d.od)], .agg [.lit (.int .i64 d.mn), .lit (.int .i64 d.md)], .agg [.lit (.int .i64 d.xn), .lit (.int .i64 d.xd)], .lit (.string d.unit), z]

theorem cells_list {n : Nat} {cs : List Value} (h : cs.length = n) : cs = (List.range n).map fun i => cs.getD i undef := by
  refine List.ext_getElem (by simp [h]) fun i h1 h2 => ?_
  simp [List.getD, h1]

set_option maxRecDepth 100000 in
theorem open_place {H : Type} {enc : TypeId × Value → H} {w : World} {base : Nat} {held : Bool} {fuel : Nat} {cs : List Value} {x : DataW H × List MemPlace} (h : DataW.trod enc Tryz.prog w base (fun _ => true) held fuel 23 cs = some x) :
    ∃ l c, cs = [.int .i64 l, .int .i64 c] ∧ x.1 = .agg [.lit (.int .i64 l), .lit (.int .i64 c)] ∧ In64 l ∧ In64 c := by
  have h2 : Tryz.prog.cellsOf 3 = 1 := by kernel_rfl
  have h3 : Tryz.prog.cellsOf 23 = 2 := by kernel_rfl
  obtain ⟨y0, y1, n, rfl, hl, z0, z1⟩ := trod_struct2 Tryz.underlying23 h
  rw [h3] at hl
  match cs, hl with
  | [c0, c1], _ =>
    simp only [h2, List.drop_zero, List.drop_succ_cons, List.take_succ_cons, List.take_zero] at z0 z1
    obtain ⟨l, e0, d0, w0⟩ := DataW.trod_int Tryz.underlying3 z0
    obtain ⟨c, e1, d1, w1⟩ := DataW.trod_int Tryz.underlying3 z1
    simp only [List.cons.injEq, and_true] at e0 e1
    subst e0 e1
    refine ⟨l, c, rfl, ?_, i64_bd w0, i64_bd w1⟩
    rw [d0, d1]
set_option maxRecDepth 100000 in
theorem open_ratc {H : Type} {enc : TypeId × Value → H} {w : World} {base : Nat} {held : Bool} {fuel : Nat} {cs : List Value} {x : DataW H × List MemPlace} (h : DataW.trod enc Tryz.prog w base (fun _ => true) held fuel 51 cs = some x) :
    ∃ l c, cs = [.int .i64 l, .int .i64 c] ∧ x.1 = .agg [.lit (.int .i64 l), .lit (.int .i64 c)] ∧ In64 l ∧ In64 c := by
  have h2 : Tryz.prog.cellsOf 2 = 1 := by kernel_rfl
  have h3 : Tryz.prog.cellsOf 51 = 2 := by kernel_rfl
  obtain ⟨y0, y1, n, rfl, hl, z0, z1⟩ := trod_struct2 Tryz.underlying51 h
  rw [h3] at hl
  match cs, hl with
  | [c0, c1], _ =>
    simp only [h2, List.drop_zero, List.drop_succ_cons, List.take_succ_cons, List.take_zero] at z0 z1
    obtain ⟨l, e0, d0, w0⟩ := DataW.trod_int Tryz.underlying2 z0
    obtain ⟨c, e1, d1, w1⟩ := DataW.trod_int Tryz.underlying2 z1
    simp only [List.cons.injEq, and_true] at e0 e1
    subst e0 e1
    refine ⟨l, c, rfl, ?_, i64_bd w0, i64_bd w1⟩
    rw [d0, d1]

set_option maxRecDepth 100000 in
set_option maxHeartbeats 1000000 in
theorem open_sig {H : Type} {enc : TypeId × Value → H} {w : World} {base : Nat} {held : Bool} {fuel : Nat} {cs : List Value} {x : DataW H × List MemPlace} (h : DataW.trod enc Tryz.prog w base (fun _ => true) held fuel 53 cs = some x) :
    ∃ (d : SigD) (rs : List (List UInt8)) (a : Option Addr) (cap : Nat) (z : DataW H), cs = (d.cells (.slice a rs.length cap)).toList ∧ SlX w a cap rs ∧ (∀ x ∈ rs, x.length ≤ maxLen) ∧ SigWf d ∧ x.1 = d.data z ∧
      ((z = .nil ∧ rs = [] ∧ cap = 0) ∨ ∃ els sp, z = .slice els sp ∧ els.length + sp.length = cap) := by
  have k1 : Tryz.prog.cellsOf 3 = 1 := by kernel_rfl
  have k2 : Tryz.prog.cellsOf 9 = 1 := by kernel_rfl
  have k3 : Tryz.prog.cellsOf 49 = 1 := by kernel_rfl
  have k4 : Tryz.prog.cellsOf 4 = 1 := by kernel_rfl
  have k5 : Tryz.prog.cellsOf 51 = 2 := by kernel_rfl
  have k6 : Tryz.prog.cellsOf 23 = 2 := by kernel_rfl
  have k7 : Tryz.prog.cellsOf 26 = 1 := by kernel_rfl
  have k8 : Tryz.prog.cellsOf 53 = 19 := by kernel_rfl
  obtain ⟨xs, n, -, rfl, hl, hlen, hf⟩ := DataW.trod_struct Tryz.underlying53 h
  rw [k8] at hl
  clear h
  match xs, hlen with
  | [y0, y1, y2, y3, y4, y5, y6, y7, y8, y9, y10, y11, y12, y13], _ =>
    match cs, hl with
    | [c0, c1, c2, c3, c4, c5, c6, c7, c8, c9, c10, c11, c12, c13, c14, c15, c16, c17, c18], _ =>
      have z0 := hf 0 _ rfl
      have z1 := hf 1 _ rfl
      have z2 := hf 2 _ rfl
      have z3 := hf 3 _ rfl
      have z4 := hf 4 _ rfl
      have z5 := hf 5 _ rfl
      have z6 := hf 6 _ rfl
      have z7 := hf 7 _ rfl
      have z8 := hf 8 _ rfl
      have z9 := hf 9 _ rfl
      have z10 := hf 10 _ rfl
      have z11 := hf 11 _ rfl
      have z12 := hf 12 _ rfl
      have z13 := hf 13 _ rfl
      clear hf
      simp only [List.getElem_toArray, List.getElem_cons_zero, List.getElem_cons_succ, k1, k2, k3, k4, k5, k6, k7, List.drop_zero, List.drop_succ_cons, List.take_succ_cons, List.take_zero, List.getElem?_cons_zero, List.getElem?_cons_succ] at z0 z1 z2 z3 z4 z5 z6 z7 z8 z9 z10 z11 z12 z13
      obtain ⟨ln, cl, e0, d0, -, -⟩ := open_place z0
      obtain ⟨nm, e1, d1, w1⟩ := DataW.trod_string Tryz.underlying9 z1
      obtain ⟨ro, e2, d2, w2⟩ := DataW.trod_int Tryz.underlying3 z2
      obtain ⟨br, e3, d3, w3⟩ := DataW.trod_int Tryz.underlying49 z3
      obtain ⟨st, e4, d4, w4⟩ := DataW.trod_int Tryz.underlying3 z4
      obtain ⟨sz, e5, d5, w5⟩ := DataW.trod_int Tryz.underlying3 z5
      obtain ⟨mo, e6, d6⟩ := DataW.trod_bool Tryz.underlying4 z6
      obtain ⟨si, e7, d7⟩ := DataW.trod_bool Tryz.underlying4 z7
      obtain ⟨s1, s2, e8, d8, w8, w8'⟩ := open_ratc z8
      obtain ⟨o1, o2, e9, d9, w9, w9'⟩ := open_ratc z9
      obtain ⟨m1, m2, e10, d10, w10, w10'⟩ := open_ratc z10
      obtain ⟨x1, x2, e11, d11, w11, w11'⟩ := open_ratc z11
      obtain ⟨un, e12, d12, w12⟩ := DataW.trod_string Tryz.underlying9 z12
      obtain ⟨a, cap, rs, e13, hs, hok, hd⟩ := open_texts z13
      simp only [List.cons.injEq, and_true] at e0 e1 e2 e3 e4 e5 e6 e7 e8 e9 e10 e11 e12 e13
      obtain ⟨rfl, rfl⟩ := e0
      obtain ⟨rfl, rfl⟩ := e8
      obtain ⟨rfl, rfl⟩ := e9
      obtain ⟨rfl, rfl⟩ := e10
      obtain ⟨rfl, rfl⟩ := e11
      subst e1 e2 e3 e4 e5 e6 e7 e12 e13
      have hbr := u64_bd w3
      obtain ⟨br, rfl⟩ := Int.eq_ofNat_of_zero_le hbr.1
      refine ⟨⟨ln, cl, nm.data.toList, ro, br, st, sz, mo, si, s1, s2, o1, o2, m1, m2, x1, x2, un.data.toList⟩, rs, a, cap, y13.1, rfl, hs, hok, ⟨i64_bd w2, by have := hbr.2; simp only; omega, i64_bd w4, i64_bd w5, w8, w8', w9, w9', w10, w10', w11, w11', w1, w12⟩, ?_, hd⟩
      simp only [List.map_cons, List.map_nil, d0, d1, d2, d3, d4, d5, d6, d7, d8, d9, d10, d11, d12]
      rfl
end Go.Proofs.YtampdbkafkcfdaaGreatDoor
