/-
  PrintSignal as the law's frame wants it.
-/
import Derived.Test.YtajnmbhcaogfoaaGreatDoorPrnN
import Derived.Test.YtajnmbhcaogfoaaGreatDoorPlain
import Derived.Test.YtajnmbhcaogfoaaGreatDoorPrnM
import Derived.Deep.Strs
import Derived.Test.YtajnmbhcaogfoaaGreatDoorRows
import Derived.LaidLaws
import Derived.Deep.DeepHandedRow

namespace Go.Proofs.YtajnmbhcaogfoaaGreatDoor
set_option linter.unusedVariables false
open Go.RowKit Go.Shelf

/-- the program's answer and the reference's agree -/
theorem sig_same (d : SigD) (rs : List (List UInt8)) : ∃ (x : List UInt8) (e : Value) (b : Bool), sigV d rs = .tuple #[.string ⟨x.toArray⟩, e] ∧ rsigV d rs = .tuple #[.string ⟨x.toArray⟩, .bool b] ∧
    (∀ w, LaidT w → Calls Tryz.prog 7 #[e, .int .i64 (if b then 0 else 4)] w fun e w' => e = .returned (.bool true) ∧ Below w.heap.size w w') := by
  unfold sigV rsigV
  cases sigB d rs
  · exact ⟨[], errV 4, false, rfl, rfl, fun w hg => by simpa using plain_errno 4 4 (by omega) (by omega) w hg⟩
  · exact ⟨sigT d rs, .nilIface, true, rfl, rfl, fun w hg => by simpa using plain_nil 0 w⟩

set_option maxRecDepth 100000 in
set_option maxHeartbeats 4000000 in
theorem printsignal_any (d : SigD) (hd : SigOK d) (rs : List (List UInt8)) (hto : rs.length ≤ 4000000) (hw : ∀ x ∈ rs, x.length ≤ 9223372036854775807) (n : Nat) (hn : n = rs.length) (a : Option Addr) (cap : Nat) (w : World) (hs : SlX w a cap rs) (hT : TabsU w) (hp : PowTab w) (hg : LaidT w) :
    Calls Tryz.prog 3 #[d.agg (.slice a n cap)] w fun e w' => e = .returned (.bool true) ∧ Below w.heap.size w w' := by
  obtain ⟨tx, er, b, e1, e2, cP⟩ := sig_same d rs
  have cR := fun W h => rsignal_any d hd rs hto hw n hn a cap W h
  have cL := fun W h => lentSig_any d rs n hn a cap W h (by omega)
  have cS := fun a' c' W h h1 h2 => signal_any d hd rs hto hw n hn a' c' W h h1 h2
  have cK := fun g o c W h1 h2 => keptSig_any d rs n n hn hn a cap g o c W h1 h2 (by omega)
  rw [e2] at cR
  simp only [e1] at cS
  clear e1 e2
  simp only [SigD.agg_eq] at *
  have e0 := SigD.cells_size d (.slice a n cap)
  have EZ := Lib.hid (SigD.cells_size d)
  have EO := Lib.hid (SigD.cells_one d)
  obtain ⟨F, hF⟩ : ∃ F, F = d.cells := ⟨_, rfl⟩
  simp only [← hF] at *
  clear hF
  generalize F (.slice a n cap) = C at *
  obtain ⟨zb, -, hbz⟩ := box1 w C 29
  have hu := Tryz.underlying29
  have HB0 := Lib.hid hbz
  have ZB := Lib.hid zb
  have HS := Lib.hid hs
  have HT := Lib.hid hT
  have HP := Lib.hid hp
  have HG := Lib.hid hg
  clear hbz hs hT hp hg hd hto hw
  go_enter Tryz.func3, Tryz.ntmps3
  go_wp2_with (refine wpList_loadS zb 29 (.tmp 1) hu (by rw [e0]; exact sig_size) ?_)
  clear zb
  with_reducible refine (cR _ (HS.out.keep HB0.out (Nat.le_refl _))).mono ?_
  rintro e w1 ⟨rfl, hb⟩
  have ZB1 := Lib.hid (ZB.out.keep hb (Nat.le_refl _))
  have HB1 := Lib.hid (bstep HB0.out hb (Nat.le_refl _))
  clear hb cR ZB HB0
  have cL1 := cL w1 (HS.out.keep HB1.out (Nat.le_refl _))
  have cPn := fun W h => cP W h
  cases b
  all_goals
    simp only [if_true, Bool.false_eq_true, if_false] at cPn
    go_wp2_with (refine wpList_loadS ZB1.out 29 (.tmp 1) hu (by rw [e0]; exact sig_size) ?_)
    with_reducible refine cL1.mono ?_
    rintro e w2 ⟨g, c2, rfl, hb, hgz, how⟩
    have ZB2 := Lib.hid (ZB1.out.keep hb (Nat.le_refl _))
    have HB2 := Lib.hid (bstep HB1.out hb (Nat.le_refl _))
    have hsx : SlX w2 (some ⟨g, 0, none⟩) c2 (rs ++ marksX 16) := how.sl.2
    obtain ⟨hsn, hsr⟩ := (Owns.pre enTx_len how).sl
    have HSX := Lib.hid hsx
    have HSR := Lib.hid hsr
    have q0 := EZ.out (.slice (some ⟨g, 0, none⟩) n c2)
    have q1 := EO.out (some ⟨g, 0, none⟩) n c2
    have cS1 := cS (some ⟨g, 0, none⟩) c2
    have cK1 := cK g 0 c2
    clear hb how hsx hsr hsn cL cL1 cS cK
    generalize F (.slice (some ⟨g, 0, none⟩) n c2) = D at *
    obtain ⟨nb, -, hbn⟩ := box1 w2 D 29
    have HB3 := Lib.hid (bstep HB2.out hbn (Nat.le_refl _))
    have ZB3 := Lib.hid (ZB2.out.keep hbn (Nat.le_refl _))
    have HN := Lib.hid hbn
    go_wp2_with (first | (refine wpList_newS (Z := zeroSig) (cs := D) 29 (.tmp 6) (.tmp 17) (by rw [q0]; exact sig_zero) (by rw [q0]; rfl) q1 ?_) | (refine wpList_loadS nb 29 (.tmp 6) hu (by rw [q0]; exact sig_size) ?_))
    with_reducible refine (cS1 _ (HSR.out.keep hbn (Nat.le_refl _)) (TabsU.keep HT.out HB3.out) (PowTab.keep HP.out HB3.out)).mono ?_
    rintro e w4 ⟨rfl, hb⟩
    have HB4 := Lib.hid (bstep HB3.out hb (Nat.le_refl _))
    have ZB4 := Lib.hid (ZB3.out.keep hb (Nat.le_refl _))
    have NB4 := Lib.hid (nb.keep hb (Nat.le_refl _))
    have H24 := Lib.hid (bstep HN.out hb (Nat.le_refl _))
    clear hb cS1 nb hbn
    go_wp2_with fail
    with_reducible refine (cPn _ (LaidT.keep HG.out HB4.out)).mono ?_
    rintro e w5 ⟨rfl, hb⟩
    have HB5 := Lib.hid (bstep HB4.out hb (Nat.le_refl _))
    have zb5 := ZB4.out.keep hb (Nat.le_refl _)
    have nb5 := NB4.out.keep hb (Nat.le_refl _)
    have H25 := Lib.hid (bstep H24.out hb (Nat.le_refl _))
    clear hb cPn cP
    go_wp2_with (first | (refine wpList_loadG nb5 29 (.tmp 6) hu (by rw [q0]; exact sig_size) ?_) | (refine wpList_loadG zb5 29 (.tmp 1) hu (by rw [e0]; exact sig_size) ?_))
    with_reducible refine (cK1 _ (HS.out.keep HB5.out (Nat.le_refl _)) (HSX.out.keep H25.out (Nat.le_refl _))).mono ?_
    rintro e w6 ⟨rfl, hb⟩
    have HB6 := Lib.hid (bstep HB5.out hb (Nat.le_refl _))
    clear hb cK1 nb5 zb5
    go_wp2_with fail
    go_ret
    exact ⟨rfl, HB6.out⟩
end Go.Proofs.YtajnmbhcaogfoaaGreatDoor

namespace Go.Proofs.YtajnmbhcaogfoaaGreatDoor
set_option linter.unusedVariables false
open Go.RowKit Go.ChangeShapes

theorem slX_of {w : World} {a : Option Addr} {cap : Nat} (xs : List ByteArray) (h : Sl w a xs.length cap 1 (xs.flatMap enStr)) : SlX w a cap (xs.map fun s => s.data.toList) := by
  have e : (xs.map fun s : ByteArray => s.data.toList).flatMap enTx = xs.flatMap enStr := by
    rw [List.flatMap_map]
    rfl
  unfold SlX SlOf
  rw [List.length_map, e]
  exact h
theorem open_texts {H : Type} {enc : TypeId × Value → H} {w : World} {base : Nat} {held : Bool} {fuel : Nat} {cs : List Value} {d : DataW H} {ps : List MemPlace} (h : DataW.trod enc Tryz.prog w base (fun _ => true) held fuel 27 cs = some (d, ps)) :
    ∃ (a : Option Addr) (cap : Nat) (rs : List (List UInt8)), cs = [.slice a rs.length cap] ∧ SlX w a cap rs ∧ (∀ x ∈ rs, x.length ≤ maxLen) ∧
      ((d = .nil ∧ rs = [] ∧ cap = 0) ∨ ∃ els sp, d = .slice els sp ∧ els.length + sp.length = cap) := by
  obtain ⟨a, cap, xs, rfl, hs, hok, hd⟩ := open_flat Tryz.underlying27 (flat_string Tryz.underlying9 (by kernel_rfl)) h
  refine ⟨a, cap, xs.map fun s => s.data.toList, by rw [List.length_map], slX_of xs hs, ?_, ?_⟩
  · intro x hx
    obtain ⟨s, hs, rfl⟩ := List.mem_map.1 hx
    exact hok s hs
  · rcases hd with ⟨h1, rfl, h2⟩ | h1
    · exact .inl ⟨h1, rfl, h2⟩
    · exact .inr h1

/-- its numbers fit -/
structure SigWf (d : SigD) : Prop where
  ro : In64 d.role
  br : d.branch < 18446744073709551616
  st : In64 d.start
  sz : In64 d.size
  s1 : In64 d.sn
  s2 : In64 d.sd
  o1 : In64 d.on
  o2 : In64 d.od
  m1 : In64 d.mn
  m2 : In64 d.md
  x1 : In64 d.xn
  x2 : In64 d.xd
  nm : d.name.length ≤ maxLen
  un : d.unit.length ≤ maxLen

def SigD.data {H : Type} (d : SigD) (z : DataW H) : DataW H := .agg [.agg [.lit (.int .i64 d.line), .lit (.int .i64 d.col)], .lit (.string d.name), .lit (.int .i64 d.role), .lit (.int .u64 (d.branch : Nat)), .lit (.int .i64 d.start), .lit (.int .i64 d.size), .lit (.bool d.moto), .lit (.bool d.signed),
  .agg [.lit (.int .i64 d.sn), .lit (.int .i64 d.sd)], .agg [.lit (.int .i64 d.on), .lit (.int .i64 d.od)], .agg [.lit (.int .i64 d.mn), .lit (.int .i64 d.md)], .agg [.lit (.int .i64 d.xn), .lit (.int .i64 d.xd)], .lit (.string d.unit), z]

theorem cells_list {n : Nat} {cs : List Value} (h : cs.length = n) : cs = (List.range n).map fun i => cs.getD i undef := by
  refine List.ext_getElem (by simp [h]) fun i h1 h2 => ?_
  simp [List.getD, h1]

set_option maxRecDepth 100000 in
theorem open_place {H : Type} {enc : TypeId × Value → H} {w : World} {base : Nat} {held : Bool} {fuel : Nat} {cs : List Value} {x : DataW H × List MemPlace} (h : DataW.trod enc Tryz.prog w base (fun _ => true) held fuel 23 cs = some x) :
    ∃ l c, cs = [.int .i64 l, .int .i64 c] ∧ x.1 = .agg [.lit (.int .i64 l), .lit (.int .i64 c)] ∧ In64 l ∧ In64 c := by
  have h2 : Tryz.prog.cellsOf 3 = 1 := by kernel_rfl
  have h3 : Tryz.prog.cellsOf 23 = 2 := by kernel_rfl
  obtain ⟨y0, y1, n, rfl, hl, z0, z1⟩ := trod_struct2 Tryz.underlying23 h
  rw [h3] at hl
  match cs, hl with
  | [c0, c1], _ =>
    simp only [h2, List.drop_zero, List.drop_succ_cons, List.take_succ_cons, List.take_zero] at z0 z1
    obtain ⟨l, e0, d0, w0⟩ := DataW.trod_int Tryz.underlying3 z0
    obtain ⟨c, e1, d1, w1⟩ := DataW.trod_int Tryz.underlying3 z1
    simp only [List.cons.injEq, and_true] at e0 e1
    subst e0 e1
    refine ⟨l, c, rfl, ?_, i64_bd w0, i64_bd w1⟩
    rw [d0, d1]
set_option maxRecDepth 100000 in
theorem open_ratc {H : Type} {enc : TypeId × Value → H} {w : World} {base : Nat} {held : Bool} {fuel : Nat} {cs : List Value} {x : DataW H × List MemPlace} (h : DataW.trod enc Tryz.prog w base (fun _ => true) held fuel 26 cs = some x) :
    ∃ l c, cs = [.int .i64 l, .int .i64 c] ∧ x.1 = .agg [.lit (.int .i64 l), .lit (.int .i64 c)] ∧ In64 l ∧ In64 c := by
  have h2 : Tryz.prog.cellsOf 2 = 1 := by kernel_rfl
  have h3 : Tryz.prog.cellsOf 26 = 2 := by kernel_rfl
  obtain ⟨y0, y1, n, rfl, hl, z0, z1⟩ := trod_struct2 Tryz.underlying26 h
  rw [h3] at hl
  match cs, hl with
  | [c0, c1], _ =>
    simp only [h2, List.drop_zero, List.drop_succ_cons, List.take_succ_cons, List.take_zero] at z0 z1
    obtain ⟨l, e0, d0, w0⟩ := DataW.trod_int Tryz.underlying2 z0
    obtain ⟨c, e1, d1, w1⟩ := DataW.trod_int Tryz.underlying2 z1
    simp only [List.cons.injEq, and_true] at e0 e1
    subst e0 e1
    refine ⟨l, c, rfl, ?_, i64_bd w0, i64_bd w1⟩
    rw [d0, d1]

set_option maxRecDepth 100000 in
set_option maxHeartbeats 1000000 in
theorem open_sig {H : Type} {enc : TypeId × Value → H} {w : World} {base : Nat} {held : Bool} {fuel : Nat} {cs : List Value} {x : DataW H × List MemPlace} (h : DataW.trod enc Tryz.prog w base (fun _ => true) held fuel 29 cs = some x) :
    ∃ (d : SigD) (rs : List (List UInt8)) (a : Option Addr) (cap : Nat) (z : DataW H), cs = (d.cells (.slice a rs.length cap)).toList ∧ SlX w a cap rs ∧ (∀ x ∈ rs, x.length ≤ maxLen) ∧ SigWf d ∧ x.1 = d.data z ∧
      ((z = .nil ∧ rs = [] ∧ cap = 0) ∨ ∃ els sp, z = .slice els sp ∧ els.length + sp.length = cap) := by
  have k1 : Tryz.prog.cellsOf 3 = 1 := by kernel_rfl
  have k2 : Tryz.prog.cellsOf 9 = 1 := by kernel_rfl
  have k3 : Tryz.prog.cellsOf 24 = 1 := by kernel_rfl
  have k4 : Tryz.prog.cellsOf 4 = 1 := by kernel_rfl
  have k5 : Tryz.prog.cellsOf 26 = 2 := by kernel_rfl
  have k6 : Tryz.prog.cellsOf 23 = 2 := by kernel_rfl
  have k7 : Tryz.prog.cellsOf 27 = 1 := by kernel_rfl
  have k8 : Tryz.prog.cellsOf 29 = 19 := by kernel_rfl
  obtain ⟨xs, n, -, rfl, hl, hlen, hf⟩ := DataW.trod_struct Tryz.underlying29 h
  rw [k8] at hl
  clear h
  match xs, hlen with
  | [y0, y1, y2, y3, y4, y5, y6, y7, y8, y9, y10, y11, y12, y13], _ =>
    match cs, hl with
    | [c0, c1, c2, c3, c4, c5, c6, c7, c8, c9, c10, c11, c12, c13, c14, c15, c16, c17, c18], _ =>
      have z0 := hf 0 _ rfl
      have z1 := hf 1 _ rfl
      have z2 := hf 2 _ rfl
      have z3 := hf 3 _ rfl
      have z4 := hf 4 _ rfl
      have z5 := hf 5 _ rfl
      have z6 := hf 6 _ rfl
      have z7 := hf 7 _ rfl
      have z8 := hf 8 _ rfl
      have z9 := hf 9 _ rfl
      have z10 := hf 10 _ rfl
      have z11 := hf 11 _ rfl
      have z12 := hf 12 _ rfl
      have z13 := hf 13 _ rfl
      clear hf
      simp only [List.getElem_toArray, List.getElem_cons_zero, List.getElem_cons_succ, k1, k2, k3, k4, k5, k6, k7, List.drop_zero, List.drop_succ_cons, List.take_succ_cons, List.take_zero, List.getElem?_cons_zero, List.getElem?_cons_succ] at z0 z1 z2 z3 z4 z5 z6 z7 z8 z9 z10 z11 z12 z13
      obtain ⟨ln, cl, e0, d0, -, -⟩ := open_place z0
      obtain ⟨nm, e1, d1, w1⟩ := DataW.trod_string Tryz.underlying9 z1
      obtain ⟨ro, e2, d2, w2⟩ := DataW.trod_int Tryz.underlying3 z2
      obtain ⟨br, e3, d3, w3⟩ := DataW.trod_int Tryz.underlying24 z3
      obtain ⟨st, e4, d4, w4⟩ := DataW.trod_int Tryz.underlying3 z4
      obtain ⟨sz, e5, d5, w5⟩ := DataW.trod_int Tryz.underlying3 z5
      obtain ⟨mo, e6, d6⟩ := DataW.trod_bool Tryz.underlying4 z6
      obtain ⟨si, e7, d7⟩ := DataW.trod_bool Tryz.underlying4 z7
      obtain ⟨s1, s2, e8, d8, w8, w8'⟩ := open_ratc z8
      obtain ⟨o1, o2, e9, d9, w9, w9'⟩ := open_ratc z9
      obtain ⟨m1, m2, e10, d10, w10, w10'⟩ := open_ratc z10
      obtain ⟨x1, x2, e11, d11, w11, w11'⟩ := open_ratc z11
      obtain ⟨un, e12, d12, w12⟩ := DataW.trod_string Tryz.underlying9 z12
      obtain ⟨a, cap, rs, e13, hs, hok, hd⟩ := open_texts z13
      simp only [List.cons.injEq, and_true] at e0 e1 e2 e3 e4 e5 e6 e7 e8 e9 e10 e11 e12 e13
      obtain ⟨rfl, rfl⟩ := e0
      obtain ⟨rfl, rfl⟩ := e8
      obtain ⟨rfl, rfl⟩ := e9
      obtain ⟨rfl, rfl⟩ := e10
      obtain ⟨rfl, rfl⟩ := e11
      subst e1 e2 e3 e4 e5 e6 e7 e12 e13
      have hbr := u64_bd w3
      obtain ⟨br, rfl⟩ := Int.eq_ofNat_of_zero_le hbr.1
      refine ⟨⟨ln, cl, nm.data.toList, ro, br, st, sz, mo, si, s1, s2, o1, o2, m1, m2, x1, x2, un.data.toList⟩, rs, a, cap, y13.1, rfl, hs, hok, ⟨i64_bd w2, by have := hbr.2; simp only; omega, i64_bd w4, i64_bd w5, w8, w8', w9, w9', w10, w10', w11, w11', w1, w12⟩, ?_, hd⟩
      simp only [List.map_cons, List.map_nil, d0, d1, d2, d3, d4, d5, d6, d7, d8, d9, d10, d11, d12]
      rfl
end Go.Proofs.YtajnmbhcaogfoaaGreatDoor

namespace Go.Proofs.YtajnmbhcaogfoaaGreatDoor
set_option linter.unusedVariables false
open Go.RowKit Go.ChangeShapes

theorem witness_row_shaped {H : Type} {enc : TypeId × Value → H} {C : Checked} {os : Os} {f : FuncId} {fn : Func} {s : OpenSpec} {conds : List PathCond} {apart : Bool} {laid : List (String × DataW Unit)} (modest : Bool) (w0 : World) (args : Array Value) (hos : w0.os = os)
    (hsh : (w0.forCall (fun _ _ => 0) ⟨#[], args, []⟩).Shaped C.prog)
    (hok : Input.okWideB C.prog (w0.forCall (fun _ _ => 0) ⟨#[], args, []⟩) f ⟨#[], args, []⟩ = true)
    (hrow : s.preRow enc C.prog fn conds apart laid (w0.forCall (fun _ _ => 0) ⟨#[], args, []⟩).memory args) :
    ∃ (w : World) (tape : Tape) (i : Input), w.os = os ∧ (w.forCall tape i).Shaped C.prog ∧ i.vars = [] ∧ Input.okWide C.prog (w.forCall tape i) .any w.heap.size f i ∧
      s.preRow enc C.prog fn conds apart laid (w.forCall tape i).memory i.args ∧ ({ modest := modest } : Assume).holds C.prog (lone (Frame.enter C.prog f i.args .normal) [] (w.forCall tape i)) :=
  ⟨w0, fun _ _ => 0, ⟨#[], args, []⟩, hos, hsh, (Input.okWide_of_okWideB (base := 0) hok).1, (Input.okWide_of_okWideB hok).2, hrow, by
    simp only [Assume.holds]
    exact ⟨by simp, by simp, fun _ => Modest.zero, by simp, by simp⟩⟩

theorem bulkAll_len {H : Type} : ∀ l : List (DataW H), l.length ≤ Rows.uptoBulkAll l
  | [] => Nat.le_refl _
  | d :: r => by
    have := bulkAll_len r
    have h1 : 1 ≤ Rows.uptoBulk d := by
      cases d with
      | lit v => cases v <;> simp [Rows.uptoBulk]
      | _ => simp [Rows.uptoBulk]
    simp only [Rows.uptoBulkAll, List.length_cons]
    omega
theorem bulk_to {H : Type} {z : DataW H} {rs : List (List UInt8)} {cap : Nat} (hc : rs.length ≤ cap) (h : (z = .nil ∧ rs = [] ∧ cap = 0) ∨ ∃ els sp, z = .slice els sp ∧ els.length + sp.length = cap) : rs.length ≤ Rows.uptoBulk z := by
  rcases h with ⟨_, rfl, _⟩ | ⟨els, sp, rfl, h2⟩
  · simp
  · have h1 := bulkAll_len els
    have h3 := bulkAll_len sp
    simp only [Rows.uptoBulk]
    omega
theorem bulk_sig {H : Type} {d : SigD} {z : DataW H} {n : Nat} (h : Rows.uptoBulk (d.data z) ≤ n) : d.name.length ≤ n ∧ d.unit.length ≤ n ∧ Rows.uptoBulk z ≤ n := by
  simp only [SigD.data, Rows.uptoBulk, Rows.uptoBulkAll] at h
  omega
theorem sigOK_of {d : SigD} (wf : SigWf d) (h1 : d.name.length ≤ 100000000) (h2 : d.unit.length ≤ 100000000) : SigOK d :=
  ⟨wf.br, wf.st, wf.sz, wf.s1, wf.s2, wf.o1, wf.o2, wf.m1, wf.m2, wf.x1, wf.x2, h1, h2, wf.ro⟩
end Go.Proofs.YtajnmbhcaogfoaaGreatDoor

namespace Go.Proofs.YtajnmbhcaogfoaaGreatDoor
set_option linter.unusedVariables false
open Go.RowKit Go.ChangeShapes

theorem printsignal_upto {H : Type} (d : SigD) (wf : SigWf d) (rs : List (List UInt8)) (hok : ∀ x ∈ rs, x.length ≤ maxLen) (a : Option Addr) (cap : Nat) (z : DataW H) (hz : (z = .nil ∧ rs = [] ∧ cap = 0) ∨ ∃ els sp, z = .slice els sp ∧ els.length + sp.length = cap)
    (w : World) (hs : SlX w a cap rs) (hb : Rows.uptoBulk (d.data z) ≤ 1048576) (hT : TabsU w) (hp : PowTab w) (hg : LaidT w) :
    Calls Tryz.prog 3 #[.agg (d.cells (.slice a rs.length cap))] w fun e w' => e = .returned (.bool true) ∧ Below w.heap.size w w' := by
  obtain ⟨h1, h2, h3⟩ := bulk_sig hb
  have h4 := bulk_to hs.le hz
  exact printsignal_any d (sigOK_of wf (by omega) (by omega)) rs (by omega) (fun x hx => Nat.le_trans (hok x hx) (by decide)) rs.length rfl a cap w hs hT hp hg
end Go.Proofs.YtajnmbhcaogfoaaGreatDoor
