/-
  Layer 7's reference: table: contract.
-/
import Derived.Test.YtlgbgobpdkilaaaGreatDoorCopB
import Derived.Test.YtlgbgobpdkilaaaGreatDoorPrnM
import Derived.Test.YtlgbgobpdkilaaaGreatDoorPrnN
import Derived.Lib.EndianBits
import Derived.Test.YtlgbgobpdkilaaaGreatDoorAppB
import Derived.Test.YtlgbgobpdkilaaaGreatDoorNodB

namespace Go.Proofs.YtlgbgobpdkilaaaGreatDoor
set_option linter.unusedVariables false

def numB (id : Nat) : Bool := decide (id < 2147483648)
def numT (id : Nat) (wide : Bool) : List UInt8 := Lib.decDigits (if wide then id + 2147483648 else id)
def sxB (s : SigX) : Bool := sigB s.d s.rs
def sxT (s : SigX) : List UInt8 := sigT s.d s.rs
def msgB (m : MsgD) : Bool := numB m.id && (wordB m.name && (wordB m.sender && (sizB m.size && (decide (m.sigs.length ≤ 64) && m.sigs.all sxB))))
def msgH (m : MsgD) : List UInt8 := [66, 79, 95, 32] ++ (numT m.id m.wide ++ ([32] ++ (m.name ++ ([58, 32] ++ (Lib.itoa m.size ++ ([32] ++ m.sender))))))
def msgL (m : MsgD) : List (List UInt8) := [] :: msgH m :: m.sigs.map fun s => 32 :: sxT s
def rowB (r : Int × List UInt8) : Bool := mayN r.2 == 0
def rowT (r : Int × List UInt8) : List UInt8 := 32 :: (Lib.itoa r.1 ++ 32 :: quoL r.2)
def tabB (t : TabD) : Bool := numB t.id && (wordB t.sig && (decide (t.rows.length ≤ 256) && t.rows.all rowB))
def tabT (t : TabD) : List UInt8 := [86, 65, 76, 95, 32] ++ (numT t.id t.wide ++ ([32] ++ (t.sig ++ (t.rows.flatMap rowT ++ [32, 59]))))
def verB (v : VerD) : Bool := mayN v.text == 0
def verT (v : VerD) : List UInt8 := [86, 69, 82, 83, 73, 79, 78, 32] ++ quoL v.text
def staB (s : StaD) : Bool := s.names.all wordB
def staT (s : StaD) : List UInt8 := [66, 85, 95, 58] ++ s.names.flatMap fun x => 32 :: x

/-- the program's way: part by part (how many messages there were; was there a table?) -/
def partB (n : Nat) : NodeD → Bool
  | .ver v => verB v
  | .sta s => staB s
  | .msg m => msgB m && decide (n + 1 ≤ 512)
  | .tab t => tabB t
def partL (b : Bool) : NodeD → List (List UInt8)
  | .ver v => [verT v]
  | .sta s => [staT s]
  | .msg m => msgL m
  | .tab t => if b then [tabT t] else [[], tabT t]
def isMsg : NodeD → Bool
  | .msg _ => true
  | _ => false
def isTab : NodeD → Bool
  | .tab _ => true
  | _ => false
def filB : Nat → List NodeD → Bool
  | _, [] => true
  | n, x :: l => partB n x && filB (if isMsg x then n + 1 else n) l
def filL : Bool → List NodeD → List (List UInt8)
  | _, [] => []
  | b, x :: l => partL b x ++ filL (b || isTab x) l
/-- lines, each ended -/
def linesT (l : List (List UInt8)) : List UInt8 := l.flatMap fun x => x ++ [10]

/-- the document's way -/
def dbB (d : DbD) : Bool := (!d.has || verB d.ver) && (staB d.sta && (decide (d.msgs.length ≤ 512) && (d.msgs.all msgB && d.tabs.all tabB)))
def dbHead (d : DbD) : List UInt8 := (if d.has then verT d.ver ++ [10] else []) ++ (staT d.sta ++ [10])
def dbT (d : DbD) : List UInt8 := dbHead d ++ (d.msgs.flatMap (fun m => linesT (msgL m)) ++ ((if d.tabs.isEmpty then [] else [10]) ++ d.tabs.flatMap fun t => tabT t ++ [10]))
def nodL (d : DbD) : List NodeD := (if d.has then [.ver d.ver] else []) ++ (.sta d.sta :: (d.msgs.map .msg ++ d.tabs.map .tab))

theorem linesT_app (a b : List (List UInt8)) : linesT (a ++ b) = linesT a ++ linesT b := by unfold linesT; rw [List.flatMap_append]
theorem tail_lines : ∀ r : List (List UInt8), Lib.joinTail [10] r ++ [10] = [10] ++ linesT r
  | [] => rfl
  | y :: r => by
    show ([10] ++ y ++ Lib.joinTail [10] r) ++ [10] = [10] ++ ((y ++ [10]) ++ linesT r)
    rw [List.append_assoc, tail_lines r]
    simp
theorem linesT_join : ∀ (l : List (List UInt8)), l ≠ [] → Lib.join l [10] ++ [10] = linesT l
  | [], h => absurd rfl h
  | x :: r, _ => by
    rw [Lib.join_cons, List.append_assoc, tail_lines]
    show _ = (x ++ [10]) ++ linesT r
    rw [List.append_assoc]

theorem filB_tabs (n : Nat) : ∀ l : List TabD, filB n (l.map .tab) = l.all tabB
  | [] => rfl
  | t :: l => by
    show (tabB t && filB n (l.map .tab)) = _
    rw [filB_tabs n l, List.all_cons]
theorem filB_msgs : ∀ (l : List MsgD) (n : Nat) (r : List TabD), filB n (l.map .msg ++ r.map .tab) = (decide (l = [] ∨ n + l.length ≤ 512) && (l.all msgB && r.all tabB))
  | [], n, r => by simp [filB_tabs]
  | m :: l, n, r => by
    show ((msgB m && decide (n + 1 ≤ 512)) && filB (n + 1) (l.map .msg ++ r.map .tab)) = _
    rw [filB_msgs l (n + 1) r, List.all_cons]
    generalize msgB m = a
    generalize l.all msgB = b
    generalize r.all tabB = c
    have h : (decide (n + 1 ≤ 512) && decide (l = [] ∨ n + 1 + l.length ≤ 512)) = decide (m :: l = [] ∨ n + (m :: l).length ≤ 512) := by
      rw [Bool.eq_iff_iff, Bool.and_eq_true]
      simp only [decide_eq_true_eq, List.length_cons, reduceCtorEq, false_or]
      cases l with
      | nil => simp
      | cons y l => simp only [reduceCtorEq, false_or, List.length_cons]; omega
    rw [← h]
    cases a <;> cases b <;> cases c <;> cases decide (n + 1 ≤ 512) <;> simp
theorem filB_nod (d : DbD) : filB 0 (nodL d) = dbB d := by
  have h : filB 0 (.sta d.sta :: (d.msgs.map .msg ++ d.tabs.map .tab)) = (staB d.sta && (decide (d.msgs.length ≤ 512) && (d.msgs.all msgB && d.tabs.all tabB))) := by
    show (staB d.sta && filB 0 (d.msgs.map .msg ++ d.tabs.map .tab)) = _
    rw [filB_msgs]
    congr 2
    rw [Bool.eq_iff_iff, decide_eq_true_eq, decide_eq_true_eq]
    constructor
    · rintro (h | h)
      · rw [h]; simp
      · omega
    · intro h; exact .inr (by omega)
  unfold nodL dbB
  cases d.has
  · exact h
  · show (verB d.ver && filB 0 (.sta d.sta :: (d.msgs.map .msg ++ d.tabs.map .tab))) = _
    rw [h]
    rfl
theorem filL_tabs : ∀ (l : List TabD), linesT (filL true (l.map .tab)) = l.flatMap fun t => tabT t ++ [10]
  | [] => rfl
  | t :: l => by
    show linesT ([tabT t] ++ filL true (l.map .tab)) = _
    rw [linesT_app, filL_tabs l]
    simp [linesT]
theorem filL_tabs0 (l : List TabD) : linesT (filL false (l.map .tab)) = (if l.isEmpty then [] else [10]) ++ l.flatMap fun t => tabT t ++ [10] := by
  cases l with
  | nil => rfl
  | cons t l =>
    show linesT ([[], tabT t] ++ filL true (l.map .tab)) = _
    rw [linesT_app, filL_tabs l]
    simp [linesT]
theorem filL_msgs (r : List TabD) : ∀ (l : List MsgD), linesT (filL false (l.map .msg ++ r.map .tab)) = l.flatMap (fun m => linesT (msgL m)) ++ ((if r.isEmpty then [] else [10]) ++ r.flatMap fun t => tabT t ++ [10])
  | [] => by simpa using filL_tabs0 r
  | m :: l => by
    show linesT (msgL m ++ filL false (l.map .msg ++ r.map .tab)) = _
    rw [linesT_app, filL_msgs r l, List.flatMap_cons, List.append_assoc]
theorem filL_nod (d : DbD) : linesT (filL false (nodL d)) = dbT d := by
  have h : linesT (filL false (.sta d.sta :: (d.msgs.map .msg ++ d.tabs.map .tab))) = (staT d.sta ++ [10]) ++ (d.msgs.flatMap (fun m => linesT (msgL m)) ++ ((if d.tabs.isEmpty then [] else [10]) ++ d.tabs.flatMap fun t => tabT t ++ [10])) := by
    show linesT ([staT d.sta] ++ filL false (d.msgs.map .msg ++ d.tabs.map .tab)) = _
    rw [linesT_app, filL_msgs]
    simp [linesT]
  unfold nodL dbT dbHead
  cases d.has
  · rw [show (if false = true then [NodeD.ver d.ver] else []) = [] from rfl, List.nil_append, h]
    simp
  · show linesT ([verT d.ver] ++ filL false (.sta d.sta :: (d.msgs.map .msg ++ d.tabs.map .tab))) = _
    rw [linesT_app, h]
    simp [linesT]
theorem filL_ne (d : DbD) : filL false (nodL d) ≠ [] := by
  unfold nodL
  cases d.has <;> simp [filL, partL]
end Go.Proofs.YtlgbgobpdkilaaaGreatDoor

namespace Go.Proofs.YtlgbgobpdkilaaaGreatDoor
set_option linter.unusedVariables false
open Go.RowKit Go.Shelf

def numV (id : Nat) (wide : Bool) : Value := .tuple #[.string ⟨(if numB id then numT id wide else []).toArray⟩, .bool (numB id)]
theorem itoa_nat (n : Nat) : Lib.itoa (n : Int) = Lib.decDigits n := by
  unfold Lib.itoa
  rw [if_neg (by omega), Int.toNat_natCast]

set_option maxHeartbeats 2000000 in
theorem rnumber_any (id : Nat) (hid : id < 4294967296) (wide : Bool) (w : World) :
    Calls Tryz.prog 71 #[.int .u32 (id : Nat), .bool wide] w fun e w' => e = .returned (numV id wide) ∧ Below w.heap.size w w' := by
  obtain ⟨V, hV⟩ : ∃ V, V = numV id wide := ⟨_, rfl⟩
  rw [← hV]
  unfold numV numB numT at hV
  by_cases h : id < 2147483648
  · have h' : ¬ (2147483648 : Int) ≤ id := by omega
    rw [decide_eq_true h] at hV
    have hw1 : IntKind.i64.wrap (id : Int) = id := by unfold IntKind.wrap; simp [IntKind.bits, IntKind.signed]; omega
    cases wide
    · have HV := Lib.hid (show V = .tuple #[.string ⟨(Lib.decDigits id).toArray⟩, .bool true] by rw [hV]; simp)
      clear hV
      have c := fun W => whole7_any (id : Int) (by omega) W
      rw [itoa_nat] at c
      generalize Lib.decDigits id = D at *
      go_enter Tryz.func71, Tryz.ntmps71
      go_wp2_with fail
      with_reducible refine (c _).mono ?_
      rintro e w1 ⟨rfl, hb⟩
      go_wp2_with fail
      go_ret2
      exact ⟨congrArg Ending.returned HV.out.symm, hb⟩
    · have HV := Lib.hid (show V = .tuple #[.string ⟨(Lib.decDigits (id + 2147483648)).toArray⟩, .bool true] by rw [hV]; simp)
      clear hV
      have c := fun W => whole7_any ((id + 2147483648 : Nat) : Int) (by omega) W
      rw [itoa_nat] at c
      generalize Lib.decDigits (id + 2147483648) = D at *
      rw [show ((id + 2147483648 : Nat) : Int) = (id : Int) + 2147483648 by omega] at c
      go_enter Tryz.func71, Tryz.ntmps71
      go_wp2_with fail
      with_reducible refine (c _).mono ?_
      rintro e w1 ⟨rfl, hb⟩
      go_wp2_with fail
      go_ret2
      exact ⟨congrArg Ending.returned HV.out.symm, hb⟩
  · have h' : (2147483648 : Int) ≤ id := by omega
    rw [decide_eq_false h] at hV
    have HV := Lib.hid (show V = .tuple #[.string ⟨#[]⟩, .bool false] by rw [hV]; simp)
    clear hV
    go_enter Tryz.func71, Tryz.ntmps71
    go_wp2_with fail
    go_ret2
    exact ⟨congrArg Ending.returned HV.out.symm, Below.refl _ _⟩

set_option maxHeartbeats 2000000 in
theorem pnumber_any (id : Nat) (hid : id < 4294967296) (wide : Bool) (w : World) (hp : PowTab w) :
    Calls Tryz.prog 82 #[.int .u32 (id : Nat), .bool wide] w fun e w' => e = .returned (numV id wide) ∧ Below w.heap.size w w' := by
  obtain ⟨V, hV⟩ : ∃ V, V = numV id wide := ⟨_, rfl⟩
  rw [← hV]
  unfold numV numB numT at hV
  by_cases h : id < 2147483648
  · have h' : ¬ (2147483648 : Int) ≤ id := by omega
    rw [decide_eq_true h] at hV
    cases wide
    · have HV := Lib.hid (show V = .tuple #[.string ⟨(Lib.decDigits id).toArray⟩, .bool true] by rw [hV]; simp)
      clear hV
      have c := fmtUint_any id (by omega) w hp
      have hw1 : IntKind.u64.wrap (id : Int) = id := by unfold IntKind.wrap; simp [IntKind.bits, IntKind.signed]; omega
      generalize Lib.decDigits id = D at *
      clear hp
      go_enter Tryz.func82, Tryz.ntmps82
      go_wp2_with fail
      with_reducible refine c.mono ?_
      rintro e w1 ⟨rfl, hb⟩
      go_wp2_with fail
      go_ret2
      exact ⟨congrArg Ending.returned HV.out.symm, hb⟩
    · have HV := Lib.hid (show V = .tuple #[.string ⟨(Lib.decDigits (id + 2147483648)).toArray⟩, .bool true] by rw [hV]; simp)
      clear hV
      have c := fmtUint_any (id + 2147483648) (by omega) w hp
      have hor : bits .or .u32 (id : Int) 2147483648 = (id : Int) + 2147483648 := bits_join_low .u32 32 (by decide) wraps_u32 31 _ _ (by omega) (by omega) (by omega) (by decide) (by decide) (by decide)
      have hw1 : IntKind.u64.wrap ((id : Int) + 2147483648) = (id : Int) + 2147483648 := by unfold IntKind.wrap; simp [IntKind.bits, IntKind.signed]; omega
      generalize Lib.decDigits (id + 2147483648) = D at *
      rw [show ((id + 2147483648 : Nat) : Int) = (id : Int) + 2147483648 by omega] at c
      clear hp
      go_enter Tryz.func82, Tryz.ntmps82
      go_wp2_with fail
      with_reducible refine c.mono ?_
      rintro e w1 ⟨rfl, hb⟩
      go_wp2_with fail
      go_ret2
      exact ⟨congrArg Ending.returned HV.out.symm, hb⟩
  · have h' : (2147483648 : Int) ≤ id := by omega
    rw [decide_eq_false h] at hV
    have HV := Lib.hid (show V = .tuple #[.string ⟨#[]⟩, .bool false] by rw [hV]; simp)
    clear hV hp
    go_enter Tryz.func82, Tryz.ntmps82
    go_wp2_with fail
    go_ret2
    exact ⟨congrArg Ending.returned HV.out.symm, Below.refl _ _⟩
end Go.Proofs.YtlgbgobpdkilaaaGreatDoor

namespace Go.Proofs.YtlgbgobpdkilaaaGreatDoor
set_option linter.unusedVariables false
open Go.RowKit Go.Shelf

/-- a signal whose numbers and texts are bounded -/
structure SxOK (x : SigX) : Prop where
  d : SigOK x.d
  n : x.rs.length ≤ 4000000
  w : ∀ r ∈ x.rs, r.length ≤ 9223372036854775807
structure MsgOK (m : MsgD) : Prop where
  id : m.id < 4294967296
  sz : In64 m.size
  nm : m.name.length ≤ 100000000
  sn : m.sender.length ≤ 100000000
  sg : ∀ x ∈ m.sigs, SxOK x

theorem sig_len (u k : Nat) (hk : u + 600 ≤ k) (NM R I1 I2 O F0 F1 F2 F3 QU J : List UInt8) (a : NM.length ≤ 64) (b : R.length ≤ 22) (c : I1.length ≤ 21) (d : I2.length ≤ 21) (e : O.length ≤ 3) (f0 : F0.length ≤ 100) (f1 : F1.length ≤ 100) (f2 : F2.length ≤ 100) (f3 : F3.length ≤ 100)
    (q : QU.length ≤ u) :
    ([83, 71, 95, 32] ++ (NM ++ (R ++ ([32, 58, 32] ++ (I1 ++ ([124] ++ (I2 ++ (O ++ ([32, 40] ++ (F0 ++ ([44] ++ (F1 ++ ([41, 32, 91] ++ (F2 ++ ([124] ++ (F3 ++ ([93, 32] ++ (QU ++ ([32] ++ J))))))))))))))))))).length ≤ k + J.length := by
  simp only [List.length_append, List.length_cons, List.length_nil]
  generalize NM.length = n1 at *
  generalize R.length = n2 at *
  generalize I1.length = n3 at *
  generalize I2.length = n4 at *
  generalize O.length = n5 at *
  generalize F0.length = n6 at *
  generalize F1.length = n7 at *
  generalize F2.length = n8 at *
  generalize F3.length = n9 at *
  generalize QU.length = n10 at *
  generalize J.length = n11 at *
  simp only [Nat.zero_add, ← Nat.add_assoc]
  omega
theorem sigT_len (x : SigX) (h : SxOK x) (hb : sxB x = true) : (sxT x).length ≤ 20000 + 66 * x.rs.length := by
  unfold sxB at hb
  have hb2 := hb
  unfold sigB allF at hb2
  simp only [Bool.and_eq_true] at hb2
  obtain ⟨b1, ⟨f1, f2, f3, f4⟩, b3, b4, b5, b6, b7, b8⟩ := hb2
  have h1 := frac7_len _ _ h.d.s1 h.d.s2 f1
  have h2 := frac7_len _ _ h.d.o1 h.d.o2 f2
  have h3 := frac7_len _ _ h.d.m1 h.d.m2 f3
  have h4 := frac7_len _ _ h.d.x1 h.d.x2 f4
  have h5 := quo7_len x.d.unit b3
  have h6 : x.d.name.length ≤ 64 := by unfold wordB nameB at b4; simp at b4; omega
  have h7 := join_words x.rs [44] (by decide) b8
  have h8 := rol7_len x.d.role x.d.branch h.d.br
  have h9 := itoa7_len x.d.start h.d.st
  have h10 := itoa7_len x.d.size h.d.sz
  have h11 := h.n
  have h12 : (ordL x.d.moto x.d.signed).length = 3 := rfl
  exact Nat.le_trans (sig_len 10000 20000 (by decide) x.d.name _ _ _ _ _ _ _ _ _ _ h6 h8 h9 h10 (Nat.le_of_eq h12) h1 h2 h3 h4 h5) (Nat.add_le_add_left h7 _)
theorem word_len {s : List UInt8} (h : wordB s = true) : s.length ≤ 64 := by unfold wordB nameB at h; simp at h; omega
theorem numT_len (id : Nat) (wide : Bool) (h : numB id = true) : (numT id wide).length ≤ 20 := by
  unfold numB at h
  have := of_decide_eq_true h
  unfold numT
  exact dec_len64 (by split <;> omega)
theorem linesT_snoc (l : List (List UInt8)) (x : List UInt8) : linesT (l ++ [x]) = linesT l ++ (x ++ [10]) := by rw [linesT_app]; simp [linesT]
theorem sigs_len (l : List SigX) (h : ∀ x ∈ l, SxOK x) (hb : l.all sxB = true) : (linesT (l.map fun s => 32 :: sxT s)).length ≤ 300000000 * l.length := by
  induction l with
  | nil => simp [linesT]
  | cons x l ih =>
    rw [List.all_cons, Bool.and_eq_true] at hb
    have h1 := ih (fun y hy => h y (List.mem_cons_of_mem _ hy)) hb.2
    have h2 := sigT_len x (h x (by simp)) hb.1
    have h3 := (h x (by simp)).n
    have e : linesT ((x :: l).map fun s => 32 :: sxT s) = ((32 :: sxT x) ++ [10]) ++ linesT (l.map fun s => 32 :: sxT s) := rfl
    rw [e]
    simp only [List.length_append, List.length_cons, List.length_nil]
    omega

set_option maxRecDepth 100000 in
set_option maxHeartbeats 8000000 in
theorem rmessage_any (x : MsgD) (hx : MsgOK x) (w : World) (cs : Array Value) (hrd : rdMsg w x cs.toList) :
    Calls Tryz.prog 43 #[.agg cs] w fun e w' => Below w.heap.size w w' ∧ ∃ v, e = .returned (.tuple #[v, .bool (msgB x)]) ∧ (msgB x = true → Owns w' w.heap.size 5 1 enByte v (linesT (msgL x))) := by
  obtain ⟨a, cap, ecs, hs⟩ := hrd
  obtain rfl : cs = x.cells (.slice a x.sigs.length cap) := Array.toList_inj.1 ecs
  clear ecs
  obtain ⟨T, hT⟩ : ∃ T, T = msgB x := ⟨_, rfl⟩
  rw [← hT]
  unfold msgB at hT
  have cN := fun W => rnumber_any x.id hx.id x.wide W
  have cW1 := fun W => rword_any x.name (by have := hx.nm; omega) W
  have cW2 := fun W => rword_any x.sender (by have := hx.sn; omega) W
  have cS := fun W => size7_any x.size hx.sz W
  have cI := fun W => whole7_any x.size hx.sz W
  have cG := fun (y : SigX) (hy : y ∈ x.sigs) (n : Nat) (hn : n = y.rs.length) a' cap' W (hW : SlX W a' cap' y.rs) => rsignal_any y.d (hx.sg y hy).d y.rs (hx.sg y hy).n (hx.sg y hy).w n hn a' cap' W hW
  have HXS := Lib.hid hx.sg
  have HWL1 := Lib.hid (word_len (s := x.name))
  have HWL2 := Lib.hid (word_len (s := x.sender))
  have HNL := Lib.hid (numT_len x.id x.wide)
  have HIL := Lib.hid (itoa7_len x.size hx.sz)
  have e0 := MsgD.cells_size x (.slice a x.sigs.length cap)
  have HC := Lib.hid (show x.cells (.slice a x.sigs.length cap) = #[.int .i64 x.line, .int .i64 x.col, .int .u32 (x.id : Nat), .bool x.wide, .string ⟨x.name.toArray⟩, .int .i64 x.size, .string ⟨x.sender.toArray⟩, .slice a x.sigs.length cap] from rfl)
  generalize x.cells (.slice a x.sigs.length cap) = C at *
  have g2 : ∀ h, C[2]'h = .int .u32 (x.id : Nat) := by rw [HC.out]; exact fun _ => rfl
  have g3 : ∀ h, C[3]'h = .bool x.wide := by rw [HC.out]; exact fun _ => rfl
  obtain ⟨zb, -, hbz⟩ := box1 w C 46
  have HBZ := Lib.hid hbz
  have ZB := Lib.hid zb
  have HS := Lib.hid hs
  have HT := Lib.hid hT
  clear hbz zb hs hT hx
  unfold numV at cN
  obtain ⟨tN, htN⟩ : ∃ t, t = (if numB x.id = true then numT x.id x.wide else []) := ⟨_, rfl⟩
  rw [← htN] at cN
  have HTN := Lib.hid htN
  clear htN
  generalize numB x.id = nB at *
  generalize wordB x.name = w1B at *
  generalize wordB x.sender = w2B at *
  generalize sizB x.size = sB at *
  go_enter Tryz.func43, Tryz.ntmps43
  go_wp2_with fail
  with_reducible refine (cN _).mono ?_
  rintro e w1 ⟨rfl, hb⟩
  have B1 := ZB.out.keep hb (Nat.le_refl _)
  rw [HC.out] at B1
  have HB1 := Lib.hid (bstep HBZ.out hb (Nat.le_refl _))
  clear hb cN g2 g3
  have f4 := B1.cell 4 _ rfl
  have f5 := B1.cell 5 _ rfl
  have f6 := B1.cell 6 _ rfl
  have f7 := B1.cell 7 _ rfl
  have HB1' := Lib.hid B1
  clear B1
  cases nB
  · have HV := Lib.hid (show T = false by rw [HT.out]; rfl)
    go_wp2_with fail
    go_ret2
    exact ⟨HB1.out, _, congrArg (fun z => Ending.returned (.tuple #[.slice none 0 0, .bool z])) HV.out.symm, fun h => by rw [HV.out] at h; cases h⟩
  go_wp2_with fail
  with_reducible refine (cW1 _).mono ?_
  rintro e w2 ⟨rfl, hw2⟩
  subst hw2
  cases w1B
  · have HV := Lib.hid (show T = false by rw [HT.out]; rfl)
    go_wp2_with fail
    go_ret2
    exact ⟨HB1.out, _, congrArg (fun z => Ending.returned (.tuple #[.slice none 0 0, .bool z])) HV.out.symm, fun h => by rw [HV.out] at h; cases h⟩
  go_wp2_with fail
  with_reducible refine (cW2 _).mono ?_
  rintro e w2 ⟨rfl, hw2⟩
  subst hw2
  cases w2B
  · have HV := Lib.hid (show T = false by rw [HT.out]; rfl)
    go_wp2_with fail
    go_ret2
    exact ⟨HB1.out, _, congrArg (fun z => Ending.returned (.tuple #[.slice none 0 0, .bool z])) HV.out.symm, fun h => by rw [HV.out] at h; cases h⟩
  go_wp2_with fail
  with_reducible refine (cS _).mono ?_
  rintro e w2 ⟨rfl, hw2⟩
  subst hw2
  cases sB
  · have HV := Lib.hid (show T = false by rw [HT.out]; rfl)
    go_wp2_with fail
    go_ret2
    exact ⟨HB1.out, _, congrArg (fun z => Ending.returned (.tuple #[.slice none 0 0, .bool z])) HV.out.symm, fun h => by rw [HV.out] at h; cases h⟩
  by_cases hl : (64 : Int) < x.sigs.length
  · have HV := Lib.hid (show T = false by rw [HT.out, decide_eq_false (show ¬ x.sigs.length ≤ 64 by omega)]; rfl)
    go_wp2_with fail
    go_ret2
    exact ⟨HB1.out, _, congrArg (fun z => Ending.returned (.tuple #[.slice none 0 0, .bool z])) HV.out.symm, fun h => by rw [HV.out] at h; cases h⟩
  have HT2 := Lib.hid (show T = x.sigs.all sxB by rw [HT.out, decide_eq_true (show x.sigs.length ≤ 64 by omega)]; rfl)
  clear HT
  go_wp2_with fail
  have htN : tN = numT x.id x.wide := by rw [HTN.out]; simp
  have hln : tN.length ≤ 20 := by rw [htN]; exact HNL.out (by first | exact trivial | rfl)
  have hl1 := HWL1.out (by first | exact trivial | rfl)
  have hl2 := HWL2.out (by first | exact trivial | rfl)
  have hli := HIL.out
  have cIx := fun y : Later w2 => cI y.w
  have l4 := fun y : Later w2 => Later.cell f4 y
  have l5 := fun y : Later w2 => Later.cell f5 y
  have l6 := fun y : Later w2 => Later.cell f6 y
  have HMS := Lib.hid (show linesT (msgL x) = _ from rfl)
  have hmh : linesT (msgL x) = ([10] ++ (msgH x ++ [10])) ++ linesT (x.sigs.map fun s => 32 :: sxT s) := by unfold msgL; simp [linesT]
  have hH : [10] ++ (msgH x ++ [10]) = [10] ++ (([66, 79, 95, 32] ++ (tN ++ ([32] ++ (x.name ++ ([58, 32] ++ (Lib.itoa x.size ++ ([32] ++ x.sender))))))) ++ [10]) := by rw [htN]; rfl
  rw [hH] at hmh
  have HMH := Lib.hid hmh
  clear hmh hH htN HTN HNL HWL1 HWL2 HIL HMS cI f4 f5 f6
  generalize x.name = NM at *
  generalize x.sender = SN at *
  generalize Lib.itoa x.size = I1 at *
  obtain ⟨P0, eP0, aP0, nP0, zP0⟩ := strCat [10, 66, 79, 95, 32] tN (by (try simp); try omega) (by (try simp); try omega)
  have lP0 : P0.length ≤ 30 := by rw [zP0]; (try simp); try omega
  have EP0 := Lib.hid eP0
  clear eP0 zP0
  obtain ⟨P1, eP1, aP1, nP1, zP1⟩ := strCat P0 [32] (by (try simp); try omega) (by (try simp); try omega)
  have lP1 : P1.length ≤ 31 := by rw [zP1]; (try simp); try omega
  have EP1 := Lib.hid eP1
  clear eP1 zP1
  obtain ⟨P2, eP2, aP2, nP2, zP2⟩ := strCat P1 NM (by (try simp); try omega) (by (try simp); try omega)
  have lP2 : P2.length ≤ 100 := by rw [zP2]; (try simp); try omega
  have EP2 := Lib.hid eP2
  clear eP2 zP2
  obtain ⟨P3, eP3, aP3, nP3, zP3⟩ := strCat P2 [58, 32] (by (try simp); try omega) (by (try simp); try omega)
  have lP3 : P3.length ≤ 110 := by rw [zP3]; (try simp); try omega
  have EP3 := Lib.hid eP3
  clear eP3 zP3
  obtain ⟨P4, eP4, aP4, nP4, zP4⟩ := strCat P3 I1 (by (try simp); try omega) (by (try simp); try omega)
  have lP4 : P4.length ≤ 140 := by rw [zP4]; (try simp); try omega
  have EP4 := Lib.hid eP4
  clear eP4 zP4
  obtain ⟨P5, eP5, aP5, nP5, zP5⟩ := strCat P4 [32] (by (try simp); try omega) (by (try simp); try omega)
  have lP5 : P5.length ≤ 141 := by rw [zP5]; (try simp); try omega
  have EP5 := Lib.hid eP5
  clear eP5 zP5
  obtain ⟨P6, eP6, aP6, nP6, zP6⟩ := strCat P5 SN (by (try simp); try omega) (by (try simp); try omega)
  have lP6 : P6.length ≤ 210 := by rw [zP6]; (try simp); try omega
  have EP6 := Lib.hid eP6
  clear eP6 zP6
  obtain ⟨P7, eP7, aP7, nP7, zP7⟩ := strCat P6 [10] (by (try simp); try omega) (by (try simp); try omega)
  have lP7 : P7.length ≤ 211 := by rw [zP7]; (try simp); try omega
  have EP7 := Lib.hid eP7
  clear eP7 zP7
  simp only [List.length_cons, List.length_nil, Nat.reduceAdd] at nP0 nP1 nP3 nP5 nP7
  have HP7 := Lib.hid (show [10] ++ (([66, 79, 95, 32] ++ (tN ++ ([32] ++ (NM ++ ([58, 32] ++ (I1 ++ ([32] ++ SN))))))) ++ [10]) = P7 by
    rw [EP7.out, EP6.out, EP5.out, EP4.out, EP3.out, EP2.out, EP1.out, EP0.out]
    simp only [List.append_assoc, List.cons_append, List.nil_append])
  clear EP0 EP1 EP2 EP3 EP4 EP5 EP6 EP7
  refine wp_region_later 17 (by kernel_rfl) (by kernel_rfl) ?_
  simp only [List.take_succ_cons, List.take_zero, List.drop_succ_cons, List.drop_zero]
  repeat (go_big_quiet_step ((go_at_call 73; with_reducible exact Later.made (cIx _))))
  refine wpQuiet_nil ?_
  rintro _ ⟨y, rfl⟩
  have hby := y.below
  clear cIx l4 l5 l6
  generalize y.w = w3 at *
  have hn0 := Owns.nil (α := UInt8) w3 w2.heap.size 5 1 enByte
  go_wp2_with (at_builtin; go_loud (refine wpList_append_str [] P7 hn0 hby (Nat.le_refl _) (by simp; omega) ?_))
  intro v4 w4 hown4 hb4
  clear hn0 hby
  go_wp2_with fail
  go_loopw [6, 7] (fun v i wr => ∃ k : Nat, k ≤ x.sigs.length ∧ i = .int .i64 (k : Nat) ∧ T = ((x.sigs.drop k).all sxB) ∧ (x.sigs.take k).all sxB = true ∧ Below w2.heap.size w2 wr ∧ Owns wr w2.heap.size 5 1 enByte v (P7 ++ linesT ((x.sigs.take k).map fun s => 32 :: sxT s))) (fun _ i _ => x.sigs.length - (intOf i).toNat)
  case atStart => exact ⟨0, Nat.zero_le _, rfl, by rw [HT2.out]; rfl, rfl, hb4, by simpa [linesT] using hown4⟩
  case round =>
    clear hown4 hb4
    obtain ⟨k, hk, rfl, hsk, htk, hbel, hown⟩ := hrel
    have B6 := HB1'.out.keep hbel (Nat.le_refl _)
    have f7 := B6.cell 7 _ rfl
    have HBW := Lib.hid (bstep HB1.out hbel (Nat.le_refl _))
    clear B6
    by_cases hlt : (k : Int) < x.sigs.length
    · have hlt' : k < x.sigs.length := by omega
      obtain ⟨b, o, rfl, hb, cs, hcl, hrd, hrg⟩ := SlRd.at (HS.out.keep last_rdSig HBW.out) (by decide) hlt'
      have hmem := List.getElem_mem hlt'
      have hok := HXS.out _ hmem
      have htk2 : (x.sigs.take (k + 1)).all sxB = ((x.sigs.take k).all sxB && sxB x.sigs[k]) := by rw [List.take_succ_eq_append_getElem hlt', List.all_append]; simp
      have hln2 : linesT ((x.sigs.take (k + 1)).map fun s => 32 :: sxT s) = linesT ((x.sigs.take k).map fun s => 32 :: sxT s) ++ ((32 :: sxT x.sigs[k]) ++ [10]) := by
        rw [List.take_succ_eq_append_getElem hlt', List.map_append, List.map_cons, List.map_nil, linesT_snoc]
      have hsl := sigs_len (x.sigs.take k) (fun y hy => HXS.out y (List.mem_of_mem_take hy)) htk
      rw [List.length_take] at hsl
      rw [List.drop_eq_getElem_cons hlt', List.all_cons] at hsk
      have cg := cG x.sigs[k] hmem
      have hsxl := sigT_len x.sigs[k] hok
      generalize x.sigs[k] = y at *
      obtain ⟨a', cap', ecs, hsy⟩ := hrd
      have cg1 := cg _ rfl a' cap' wr hsy
      rw [SigD.agg_eq] at cg1
      have hD0 := SigD.cells_size y.d (.slice a' y.rs.length cap')
      generalize y.d.cells (.slice a' y.rs.length cap') = D at *
      subst ecs
      have hsz : (Tryz.prog.info? 53).map (·.size) = some D.toList.length := by rw [Array.length_toList, hD0]; exact sig_size
      have hu := Tryz.underlying53
      have hyn := hok.n
      unfold rsigV at cg1
      rw [show sigB y.d y.rs = sxB y from rfl, show sigT y.d y.rs = sxT y from rfl] at cg1
      obtain ⟨tS, htS⟩ : ∃ t, t = (if sxB y = true then sxT y else []) := ⟨_, rfl⟩
      rw [← htS] at cg1
      have HTS := Lib.hid htS
      have HSX := Lib.hid hsxl
      have HSK := Lib.hid hsk
      have HTK2 := Lib.hid htk2
      have HTK := Lib.hid htk
      have HLN := Lib.hid hln2
      clear htS hsxl hsk htk2 htk hln2 cg hsy hok hmem
      generalize sxB y = yb at *
      go_wp2_with (refine wpList_load_mid rfl 53 (.tmp 73) rfl b (o + k * 19) rfl D.toList _ hrg hu rfl hsz ?_)
      with_reducible refine cg1.mono ?_
      rintro e w6 ⟨rfl, hb6⟩
      have hb7 := bstep hbel hb6 (Nat.le_refl _)
      have HB7 := Lib.hid (bstep HBW.out hb6 (Nat.le_refl _))
      have hown7 := hown.keep hb6 (Nat.le_refl _)
      clear hb6 hown hbel cg1 hrg f7
      cases yb
      · have HV := Lib.hid (show T = false by rw [HSK.out]; rfl)
        go_wp2_with fail
        go_ret2
        exact ⟨HB7.out, _, congrArg (fun z => Ending.returned (.tuple #[.slice none 0 0, .bool z])) HV.out.symm, fun h => by rw [HV.out] at h; cases h⟩
      · have HSK2 := Lib.hid (show T = (x.sigs.drop (k + 1)).all sxB by rw [HSK.out]; rfl)
        have HT3 := Lib.hid (show (x.sigs.take (k + 1)).all sxB = true by rw [HTK2.out, HTK.out]; rfl)
        have htS : tS = sxT y := by rw [HTS.out]; simp
        have hlS : tS.length ≤ 20000 + 66 * y.rs.length := by rw [htS]; exact HSX.out (by first | exact trivial | rfl)
        rw [← htS] at HLN
        clear HSK HTK2 HTK HSX HTS htS
        obtain ⟨Q0, eQ0, aQ0, nQ0, zQ0⟩ := strCat [32] tS (by (try simp)) (by omega)
        obtain ⟨Q1, eQ1, aQ1, nQ1, zQ1⟩ := strCat Q0 [10] (by rw [zQ0]; (try simp); omega) (by (try simp))
        have lQ0 : Q0.length ≤ 1000000000 := by rw [zQ0]; (try simp); omega
        have lQ1 : Q1.length ≤ 1000000000 := by rw [zQ1, zQ0]; (try simp); omega
        have HQ := Lib.hid (show (32 :: tS) ++ [10] = Q1 by rw [eQ1, eQ0]; rfl)
        clear eQ0 eQ1 zQ0 zQ1
        simp only [List.length_cons, List.length_nil, Nat.reduceAdd] at nQ0 nQ1
        go_wp2_with (at_builtin; go_loud (refine wpList_append_str (P7 ++ linesT ((x.sigs.take k).map fun s => 32 :: sxT s)) Q1 hown7 hb7 (Nat.le_refl _) (by rw [List.length_append]; omega) ?_))
        intro v8 w8 hown8 hb8
        clear hown7 hb7
        go_wp2_with fail
        go_roundw
        case rel => exact ⟨k + 1, by omega, by go_num, HSK2.out, HT3.out, hb8, by rw [HLN.out, HQ.out]; simpa using hown8⟩
        case measure => simp [intOf]; omega
    · obtain rfl : k = x.sigs.length := by omega
      rw [List.take_length] at hown
      have HV := Lib.hid (show T = true by rw [hsk, List.drop_length]; rfl)
      clear hsk htk
      have HMH2 := Lib.hid (HMH.out.trans (by rw [HP7.out]))
      generalize P7 ++ linesT (x.sigs.map fun s => 32 :: sxT s) = L at *
      obtain ⟨a2, c2, rfl, -⟩ := hown.shape
      go_wp2_with fail
      go_ret2
      exact ⟨HBW.out, .slice a2 L.length c2, by rw [HV.out] <;> rfl, fun _ => by rw [HMH2.out]; exact hown.fromBase HB1.out.size⟩
end Go.Proofs.YtlgbgobpdkilaaaGreatDoor

namespace Go.Proofs.YtlgbgobpdkilaaaGreatDoor
set_option linter.unusedVariables false
open Go.RowKit Go.Shelf

structure TabOK (t : TabD) : Prop where
  id : t.id < 4294967296
  sg : t.sig.length ≤ 100000000
  rw : ∀ r ∈ t.rows, In64 r.1 ∧ r.2.length ≤ 100000000

theorem rowT_len (r : Int × List UInt8) (h : In64 r.1) (hb : rowB r = true) : (rowT r).length ≤ 10100 := by
  have h1 := itoa7_len r.1 h
  have h2 := quo7_len r.2 hb
  unfold rowT
  simp only [List.length_cons, List.length_append]
  omega
theorem rows_len (l : List (Int × List UInt8)) (h : ∀ r ∈ l, In64 r.1) (hb : l.all rowB = true) : (l.flatMap rowT).length ≤ 10100 * l.length := by
  induction l with
  | nil => simp
  | cons x l ih =>
    rw [List.all_cons, Bool.and_eq_true] at hb
    have h1 := ih (fun y hy => h y (List.mem_cons_of_mem _ hy)) hb.2
    have h2 := rowT_len x (h x (by simp)) hb.1
    rw [List.flatMap_cons, List.length_append, List.length_cons]
    omega

set_option maxRecDepth 100000 in
set_option maxHeartbeats 8000000 in
theorem rtable_any (x : TabD) (hx : TabOK x) (w : World) (cs : Array Value) (hrd : rdTab w x cs.toList) :
    Calls Tryz.prog 44 #[.agg cs] w fun e w' => Below w.heap.size w w' ∧ ∃ v, e = .returned (.tuple #[v, .bool (tabB x)]) ∧ (tabB x = true → Owns w' w.heap.size 5 1 enByte v (tabT x ++ [10])) := by
  obtain ⟨a, cap, ecs, hs⟩ := hrd
  obtain rfl : cs = x.cells (.slice a x.rows.length cap) := Array.toList_inj.1 ecs
  clear ecs
  obtain ⟨T, hT⟩ : ∃ T, T = tabB x := ⟨_, rfl⟩
  rw [← hT]
  unfold tabB at hT
  have cN := fun W => rnumber_any x.id hx.id x.wide W
  have cW1 := fun W => rword_any x.sig (by have := hx.sg; omega) W
  have HXS := Lib.hid hx.rw
  have HWL1 := Lib.hid (word_len (s := x.sig))
  have HNL := Lib.hid (numT_len x.id x.wide)
  have e0 := TabD.cells_size x (.slice a x.rows.length cap)
  have HC := Lib.hid (show x.cells (.slice a x.rows.length cap) = #[.int .i64 x.line, .int .i64 x.col, .int .u32 (x.id : Nat), .bool x.wide, .string ⟨x.sig.toArray⟩, .slice a x.rows.length cap] from rfl)
  generalize x.cells (.slice a x.rows.length cap) = C at *
  have g2 : ∀ h, C[2]'h = .int .u32 (x.id : Nat) := by rw [HC.out]; exact fun _ => rfl
  have g3 : ∀ h, C[3]'h = .bool x.wide := by rw [HC.out]; exact fun _ => rfl
  obtain ⟨zb, -, hbz⟩ := box1 w C 57
  have HBZ := Lib.hid hbz
  have ZB := Lib.hid zb
  have HS := Lib.hid hs
  have HT := Lib.hid hT
  clear hbz zb hs hT hx
  unfold numV at cN
  obtain ⟨tN, htN⟩ : ∃ t, t = (if numB x.id = true then numT x.id x.wide else []) := ⟨_, rfl⟩
  rw [← htN] at cN
  have HTN := Lib.hid htN
  clear htN
  generalize numB x.id = nB at *
  generalize wordB x.sig = w1B at *
  go_enter Tryz.func44, Tryz.ntmps44
  go_wp2_with fail
  with_reducible refine (cN _).mono ?_
  rintro e w1 ⟨rfl, hb⟩
  have B1 := ZB.out.keep hb (Nat.le_refl _)
  rw [HC.out] at B1
  have HB1 := Lib.hid (bstep HBZ.out hb (Nat.le_refl _))
  clear hb cN g2 g3
  have f4 := B1.cell 4 _ rfl
  have f5 := B1.cell 5 _ rfl
  have HB1' := Lib.hid B1
  clear B1
  cases nB
  · have HV := Lib.hid (show T = false by rw [HT.out]; rfl)
    go_wp2_with fail
    go_ret2
    exact ⟨HB1.out, _, congrArg (fun z => Ending.returned (.tuple #[.slice none 0 0, .bool z])) HV.out.symm, fun h => by rw [HV.out] at h; cases h⟩
  go_wp2_with fail
  with_reducible refine (cW1 _).mono ?_
  rintro e w2 ⟨rfl, hw2⟩
  subst hw2
  cases w1B
  · have HV := Lib.hid (show T = false by rw [HT.out]; rfl)
    go_wp2_with fail
    go_ret2
    exact ⟨HB1.out, _, congrArg (fun z => Ending.returned (.tuple #[.slice none 0 0, .bool z])) HV.out.symm, fun h => by rw [HV.out] at h; cases h⟩
  by_cases hl : (256 : Int) < x.rows.length
  · have HV := Lib.hid (show T = false by rw [HT.out, decide_eq_false (show ¬ x.rows.length ≤ 256 by omega)]; rfl)
    go_wp2_with fail
    go_ret2
    exact ⟨HB1.out, _, congrArg (fun z => Ending.returned (.tuple #[.slice none 0 0, .bool z])) HV.out.symm, fun h => by rw [HV.out] at h; cases h⟩
  have HT2 := Lib.hid (show T = x.rows.all rowB by rw [HT.out, decide_eq_true (show x.rows.length ≤ 256 by omega)]; rfl)
  clear HT
  have htN : tN = numT x.id x.wide := by rw [HTN.out]; simp
  have hln : tN.length ≤ 20 := by rw [htN]; exact HNL.out (by first | exact trivial | rfl)
  have hl1 := HWL1.out (by first | exact trivial | rfl)
  have hmh : tabT x ++ [10] = ([86, 65, 76, 95, 32] ++ (tN ++ ([32] ++ x.sig))) ++ (x.rows.flatMap rowT ++ [32, 59, 10]) := by
    unfold tabT
    rw [← htN]
    simp
  have HMH := Lib.hid hmh
  clear hmh htN HTN HNL HWL1
  generalize x.sig = SG at *
  obtain ⟨P0, eP0, aP0, nP0, zP0⟩ := strCat [86, 65, 76, 95, 32] tN (by (try simp)) (by omega)
  have lP0 : P0.length ≤ 30 := by rw [zP0]; (try simp); omega
  obtain ⟨P1, eP1, aP1, nP1, zP1⟩ := strCat P0 [32] (by omega) (by (try simp))
  have lP1 : P1.length ≤ 31 := by rw [zP1]; (try simp); omega
  obtain ⟨P2, eP2, aP2, nP2, zP2⟩ := strCat P1 SG (by omega) (by omega)
  have lP2 : P2.length ≤ 100 := by rw [zP2]; omega
  have HP2 := Lib.hid (show [86, 65, 76, 95, 32] ++ (tN ++ ([32] ++ SG)) = P2 by rw [eP2, eP1, eP0]; simp only [List.append_assoc])
  clear eP0 eP1 eP2 zP0 zP1 zP2
  simp only [List.length_cons, List.length_nil, Nat.reduceAdd] at nP0 nP1
  have hn0 := Owns.nil (α := UInt8) w2 w2.heap.size 5 1 enByte
  go_wp2_with (at_builtin; go_loud (refine wpList_append_str [] P2 hn0 (Below.refl _ _) (Nat.le_refl _) (by simp; omega) ?_))
  intro v4 w4 hown4 hb4
  clear hn0 f4 f5
  go_wp2_with fail
  go_loopw [6, 7] (fun v i wr => ∃ k : Nat, k ≤ x.rows.length ∧ i = .int .i64 (k : Nat) ∧ T = ((x.rows.drop k).all rowB) ∧ (x.rows.take k).all rowB = true ∧ Below w2.heap.size w2 wr ∧ Owns wr w2.heap.size 5 1 enByte v (P2 ++ (x.rows.take k).flatMap rowT)) (fun _ i _ => x.rows.length - (intOf i).toNat)
  case atStart => exact ⟨0, Nat.zero_le _, rfl, by rw [HT2.out]; rfl, rfl, hb4, by simpa using hown4⟩
  case round =>
    clear hown4 hb4
    obtain ⟨k, hk, rfl, hsk, htk, hbel, hown⟩ := hrel
    have B6 := HB1'.out.keep hbel (Nat.le_refl _)
    have f5 := B6.cell 5 _ rfl
    have HBW := Lib.hid (bstep HB1.out hbel (Nat.le_refl _))
    clear B6
    have hsl := rows_len (x.rows.take k) (fun y hy => (HXS.out y (List.mem_of_mem_take hy)).1) htk
    rw [List.length_take] at hsl
    by_cases hlt : (k : Int) < x.rows.length
    · have hlt' : k < x.rows.length := by omega
      obtain ⟨b, o, rfl, hb, hc0, hc1⟩ := SlRw.at (HS.out.keep HBW.out (Nat.le_refl _)) hlt'
      have hmem := List.getElem_mem hlt'
      have hok := HXS.out _ hmem
      have htk2 : (x.rows.take (k + 1)).all rowB = ((x.rows.take k).all rowB && rowB x.rows[k]) := by rw [List.take_succ_eq_append_getElem hlt', List.all_append]; simp
      have hln2 : (x.rows.take (k + 1)).flatMap rowT = (x.rows.take k).flatMap rowT ++ rowT x.rows[k] := by
        rw [List.take_succ_eq_append_getElem hlt', List.flatMap_append]; simp
      rw [List.drop_eq_getElem_cons hlt', List.all_cons] at hsk
      generalize x.rows[k] = y at *
      obtain ⟨yv, yt⟩ := y
      simp only at hc0 hc1 hok
      have cM := fun W => may3_any yt (by have := hok.2; omega) W
      have cI := fun W => whole7_any yv hok.1 W
      have HCQ := Lib.hid (show (mayN yt == 0) = true → ∀ W, Calls Tryz.prog 69 #[.string ⟨yt.toArray⟩] W fun e w' => e = .returned (.string ⟨(quoL yt).toArray⟩) ∧ Below W.heap.size W w' from fun h W => rquote_any yt (by have := may7_len yt h; omega) W)
      have HQL := Lib.hid (show (mayN yt == 0) = true → (quoL yt).length ≤ 10000 from fun h => quo7_len yt h)
      have hil := itoa7_len yv hok.1
      have HLN := Lib.hid (show (x.rows.take (k + 1)).flatMap rowT = (x.rows.take k).flatMap rowT ++ (32 :: (Lib.itoa yv ++ 32 :: quoL yt)) from hln2)
      have HSK := Lib.hid (show T = ((mayN yt == 0) && (x.rows.drop (k + 1)).all rowB) from hsk)
      have HTK2 := Lib.hid (show (x.rows.take (k + 1)).all rowB = ((x.rows.take k).all rowB && (mayN yt == 0)) from htk2)
      have HTK := Lib.hid htk
      clear hln2 hsk htk2 htk hok hmem
      obtain ⟨nb, -, hbn⟩ := box1 wr #[.int .i64 yv, .string ⟨yt.toArray⟩] 69
      have hbel2 := bstep hbel hbn (Nat.le_refl _)
      have hown2 := hown.keep hbn (Nat.le_refl _)
      have HBW2 := Lib.hid (bstep HBW.out hbn (Nat.le_refl _))
      have NB := Lib.hid nb
      clear hbel hown hbn nb
      generalize mayN yt = mq at *
      go_wp2_with fail
      with_reducible refine (cM _).mono ?_
      rintro e w6 ⟨rfl, hb6⟩
      have nb6 := NB.out.keep hb6 (Nat.le_refl _)
      have hbel3 := bstep hbel2 hb6 (Nat.le_refl _)
      have hown3 := hown2.keep hb6 (Nat.le_refl _)
      have HBW3 := Lib.hid (bstep HBW2.out hb6 (Nat.le_refl _))
      clear hb6 hbel2 hown2 cM hc0 hc1 f5 HBW HBW2
      by_cases hmq : mq = 0
      rotate_left
      · have HV := Lib.hid (show T = false by rw [HSK.out, show (mq == 0) = false from beq_eq_false_iff_ne.2 hmq]; rfl)
        have hmq2 : ((mq : Int) != 0) = true := by rw [bne_iff_ne]; omega
        clear hmq
        go_wp2_with fail
        go_ret2
        exact ⟨HBW3.out, _, congrArg (fun z => Ending.returned (.tuple #[.slice none 0 0, .bool z])) HV.out.symm, fun h => by rw [HV.out] at h; cases h⟩
      · subst hmq
        have HSK2 := Lib.hid (show T = (x.rows.drop (k + 1)).all rowB by rw [HSK.out]; rfl)
        have HT3 := Lib.hid (show (x.rows.take (k + 1)).all rowB = true by rw [HTK2.out, HTK.out]; rfl)
        have hql := HQL.out rfl
        have cQ := HCQ.out rfl
        clear HSK HTK2 HTK HQL HCQ
        obtain ⟨q0, q1, -, -⟩ := nb6.two
        have m0 := fun z : Later w6 => Later.cell q0 z
        have m1 := fun z : Later w6 => Later.cell q1 z
        have cIx := fun z : Later w6 => cI z.w
        have cQx := fun z : Later w6 => cQ z.w
        clear cI cQ
        generalize quoL yt = QU at *
        generalize Lib.itoa yv = I1 at *
        obtain ⟨Q0, eQ0, aQ0, nQ0, zQ0⟩ := strCat [32] I1 (by (try simp)) (by omega)
        have lQ0 : Q0.length ≤ 30 := by rw [zQ0]; (try simp); omega
        obtain ⟨Q1, eQ1, aQ1, nQ1, zQ1⟩ := strCat Q0 [32] (by omega) (by (try simp))
        have lQ1 : Q1.length ≤ 31 := by rw [zQ1]; (try simp); omega
        obtain ⟨Q2, eQ2, aQ2, nQ2, zQ2⟩ := strCat Q1 QU (by omega) (by omega)
        have lQ2 : Q2.length ≤ 10100 := by rw [zQ2]; omega
        have HQ := Lib.hid (show 32 :: (I1 ++ 32 :: QU) = Q2 by rw [eQ2, eQ1, eQ0]; simp)
        clear eQ0 eQ1 eQ2 zQ0 zQ1 zQ2
        simp only [List.length_cons, List.length_nil, Nat.reduceAdd] at nQ0 nQ1
        go_wp2_with fail
        refine wp_region_later 10 (by kernel_rfl) (by kernel_rfl) ?_
        simp only [List.take_succ_cons, List.take_zero, List.drop_succ_cons, List.drop_zero]
        repeat (go_big_quiet_step ((first | (go_at_call 73; with_reducible exact Later.made (cIx _)) | (go_at_call 69; with_reducible exact Later.made (cQx _)))))
        refine wpQuiet_nil ?_
        rintro _ ⟨z, rfl⟩
        have hbel4 := bstep hbel3 z.below (Nat.le_refl _)
        have hown4 := hown3.keep z.below (Nat.le_refl _)
        clear cIx cQx m0 m1 q0 q1 hbel3 hown3
        generalize z.w = w8 at *
        go_wp2_with (at_builtin; go_loud (refine wpList_append_str (P2 ++ (x.rows.take k).flatMap rowT) Q2 hown4 hbel4 (Nat.le_refl _) (by rw [List.length_append]; omega) ?_))
        intro v8 w9 hown8 hb8
        clear hown4 hbel4
        go_wp2_with fail
        go_roundw
        case rel => exact ⟨k + 1, by omega, by go_num, HSK2.out, HT3.out, hb8, by rw [HLN.out, HQ.out]; simpa using hown8⟩
        case measure => simp [intOf]; omega
    · obtain rfl : k = x.rows.length := by omega
      rw [List.take_length] at hown
      have HV := Lib.hid (show T = true by rw [hsk, List.drop_length]; rfl)
      clear hsk htk
      have HMH2 := Lib.hid (show tabT x ++ [10] = (P2 ++ x.rows.flatMap rowT) ++ [32, 59, 10] by rw [HMH.out, HP2.out]; simp)
      have hsl2 : (x.rows.flatMap rowT).length ≤ 10100 * 256 := by rw [List.take_length] at hsl; omega
      have hLl : (P2 ++ x.rows.flatMap rowT).length ≤ 100000000 := by rw [List.length_append]; omega
      generalize P2 ++ x.rows.flatMap rowT = L at *
      go_wp2_with (at_builtin; go_loud (refine wpList_append_str L [32, 59, 10] hown hbel (Nat.le_refl _) (by simp; omega) ?_))
      intro v8 w9 hown8 hb8
      generalize hL2 : L ++ [32, 59, 10] = L2 at *
      obtain ⟨a2, c2, rfl, -⟩ := hown8.shape
      go_wp2_with fail
      go_ret2
      exact ⟨bstep HB1.out hb8 (Nat.le_refl _), .slice a2 L2.length c2, by rw [HV.out] <;> rfl, fun _ => by rw [HMH2.out]; exact hown8.fromBase HB1.out.size⟩
end Go.Proofs.YtlgbgobpdkilaaaGreatDoor
