/-
  Layer 7's reference: table: contract.
-/
import Derived.Test.YtampdbkafkcfdaaGreatDoorCopB
import Derived.Test.YtampdbkafkcfdaaGreatDoorPrnM
import Derived.Test.YtampdbkafkcfdaaGreatDoorPrnN
import Derived.Lib.EndianBits
import Derived.Test.YtampdbkafkcfdaaGreatDoorAppB
import Derived.Test.YtampdbkafkcfdaaGreatDoorNodB

namespace Go.Proofs.YtampdbkafkcfdaaGreatDoor
set_option linter.unusedVariables false

def numB (id : Nat) : Bool := decide (id < 2147483648)
def numT (id : Nat) (wide : Bool) : List UInt8 := Lib.decDigits (if wide then id + 2147483648 else id)
def sxB (s : SigX) : Bool := sigB s.d s.rs
def sxT (s : SigX) : List UInt8 := sigT s.d s.rs
def msgB (m : MsgD) : Bool := numB m.id && (wordB m.name && (wordB m.sender && (sizB m.size && (decide (m.sigs.length ≤ 64) && m.sigs.all sxB))))
def msgH (m : MsgD) : List UInt8 := [66, 79, 95, 32] ++ (numT m.id m.wide ++ ([32] ++ (m.name ++ ([58, 32] ++ (Lib.itoa m.size ++ ([32] ++ m.sender))))))
def msgL (m : MsgD) : List (List UInt8) := [] :: msgH m :: m.sigs.map fun s => 32 :: sxT s
def rowB (r : Int × List UInt8) : Bool := mayN r.2 == 0
def rowT (r : Int × List UInt8) : List UInt8 := 32 :: (Lib.itoa r.1 ++ 32 :: quoL r.2)
def tabB (t : TabD) : Bool := numB t.id && (wordB t.sig && (decide (t.rows.length ≤ 256) && t.rows.all rowB))
def tabT (t : TabD) : List UInt8 := [86, 65, 76, 95, 32] ++ (numT t.id t.wide ++ ([32] ++ (t.sig ++ (t.rows.flatMap rowT ++ [32, 59]))))
def verB (v : VerD) : Bool := mayN v.text == 0
def verT (v : VerD) : List UInt8 := [86, 69, 82, 83, 73, 79, 78, 32] ++ quoL v.text
def staB (s : StaD) : Bool := s.names.all wordB
def staT (s : StaD) : List UInt8 := [66, 85, 95, 58] ++ s.names.flatMap fun x => 32 :: x

/-- the program's way: part by part (how many messages there were; was there a table?) -/
def partB (n : Nat) : NodeD → Bool
  | .ver v => verB v
  | .sta s => staB s
  | .msg m => msgB m && decide (n + 1 ≤ 512)
  | .tab t => tabB t
def partL (b : Bool) : NodeD → List (List UInt8)
  | .ver v => [verT v]
  | .sta s => [staT s]
  | .msg m => msgL m
  | .tab t => if b then [tabT t] else [[], tabT t]
def isMsg : NodeD → Bool
  | .msg _ => true
  | _ => false
def isTab : NodeD → Bool
  | .tab _ => true
  | _ => false
def filB : Nat → List NodeD → Bool
  | _, [] => true
  | n, x :: l => partB n x && filB (if isMsg x then n + 1 else n) l
def filL : Bool → List NodeD → List (List UInt8)
  | _, [] => []
  | b, x :: l => partL b x ++ filL (b || isTab x) l
/-- lines, each ended -/
def linesT (l : List (List UInt8)) : List UInt8 := l.flatMap fun x => x ++ [10]

/-- the document's way -/
def dbB (d : DbD) : Bool := (!d.has || verB d.ver) && (staB d.sta && (decide (d.msgs.length ≤ 512) && (d.msgs.all msgB && d.tabs.all tabB)))
def dbHead (d : DbD) : List UInt8 := (if d.has then verT d.ver ++ [10] else []) ++ (staT d.sta ++ [10])
def dbT (d : DbD) : List UInt8 := dbHead d ++ (d.msgs.flatMap (fun m => linesT (msgL m)) ++ ((if d.tabs.isEmpty then [] else [10]) ++ d.tabs.flatMap fun t => tabT t ++ [10]))
def nodL (d : DbD) : List NodeD := (if d.has then [.ver d.ver] else []) ++ (.sta d.sta :: (d.msgs.map .msg ++ d.tabs.map .tab))

theorem linesT_app (a b : List (List UInt8)) : linesT (a ++ b) = linesT a ++ linesT b := by unfold linesT; rw [List.flatMap_append]
theorem tail_lines : ∀ r : List (List UInt8), Lib.joinTail [10] r ++ [10] = [10] ++ linesT r
  | [] => rfl
  | y :: r => by
    show ([10] ++ y ++ Lib.joinTail [10] r) ++ [10] = [10] ++ ((y ++ [10]) ++ linesT r)
    rw [List.append_assoc, tail_lines r]
    simp
theorem linesT_join : ∀ (l : List (List UInt8)), l ≠ [] → Lib.join l [10] ++ [10] = linesT l
  | [], h => absurd rfl h
  | x :: r, _ => by
    rw [Lib.join_cons, List.append_assoc, tail_lines]
    show _ = (x ++ [10]) ++ linesT r
    rw [List.append_assoc]

theorem filB_tabs (n : Nat) : ∀ l : List TabD, filB n (l.map .tab) = l.all tabB
  | [] => rfl
  | t :: l => by
    show (tabB t && filB n (l.map .tab)) = _
    rw [filB_tabs n l, List.all_cons]
theorem filB_msgs : ∀ (l : List MsgD) (n : Nat) (r : List TabD), filB n (l.map .msg ++ r.map .tab) = (decide (l = [] ∨ n + l.length ≤ 512) && (l.all msgB && r.all tabB))
  | [], n, r => by simp [filB_tabs]
  | m :: l, n, r => by
    show ((msgB m && decide (n + 1 ≤ 512)) && filB (n + 1) (l.map .msg ++ r.map .tab)) = _
    rw [filB_msgs l (n + 1) r, List.all_cons]
    generalize msgB m = a
    generalize l.all msgB = b
    generalize r.all tabB = c
    have h : (decide (n + 1 ≤ 512) && decide (l = [] ∨ n + 1 + l.length ≤ 512)) = decide (m :: l = [] ∨ n + (m :: l).length ≤ 512) := by
      rw [Bool.eq_iff_iff, Bool.and_eq_true]
      simp only [decide_eq_true_eq, List.length_cons, reduceCtorEq, false_or]
      cases l with
      | nil => simp
      | cons y l => simp only [reduceCtorEq, false_or, List.length_cons]; omega
    rw [← h]
    cases a <;> cases b <;> cases c <;> cases decide (n + 1 ≤ 512) <;> simp
theorem filB_nod (d : DbD) : filB 0 (nodL d) = dbB d := by
  have h : filB 0 (.sta d.sta :: (d.msgs.map .msg ++ d.tabs.map .tab)) = (staB d.sta && (decide (d.msgs.length ≤ 512) && (d.msgs.all msgB && d.tabs.all tabB))) := by
    show (staB d.sta && filB 0 (d.msgs.map .msg ++ d.tabs.map .tab)) = _
    rw [filB_msgs]
    congr 2
    rw [Bool.eq_iff_iff, decide_eq_true_eq, decide_eq_true_eq]
    constructor
    · rintro (h | h)
      · rw [h]; simp
      · omega
    · intro h; exact .inr (by omega)
  unfold nodL dbB
  cases d.has
  · exact h
  · show (verB d.ver && filB 0 (.sta d.sta :: (d.msgs.map .msg ++ d.tabs.map .tab))) = _
    rw [h]
    rfl
theorem filL_tabs : ∀ (l : List TabD), linesT (filL true (l.map .tab)) = l.flatMap fun t => tabT t ++ [10]
  | [] => rfl
  | t :: l => by
    show linesT ([tabT t] ++ filL true (l.map .tab)) = _
    rw [linesT_app, filL_tabs l]
    simp [linesT]
theorem filL_tabs0 (l : List TabD) : linesT (filL false (l.map .tab)) = (if l.isEmpty then [] else [10]) ++ l.flatMap fun t => tabT t ++ [10] := by
  cases l with
  | nil => rfl
  | cons t l =>
    show linesT ([[], tabT t] ++ filL true (l.map .tab)) = _
    rw [linesT_app, filL_tabs l]
    simp [linesT]
theorem filL_msgs (r : List TabD) : ∀ (l : List MsgD), linesT (filL false (l.map .msg ++ r.map .tab)) = l.flatMap (fun m => linesT (msgL m)) ++ ((if r.isEmpty then [] else [10]) ++ r.flatMap fun t => tabT t ++ [10])
  | [] => by simpa using filL_tabs0 r
  | m :: l => by
    show linesT (msgL m ++ filL false (l.map .msg ++ r.map .tab)) = _
    rw [linesT_app, filL_msgs r l, List.flatMap_cons, List.append_assoc]
theorem filL_nod (d : DbD) : linesT (filL false (nodL d)) = dbT d := by
  have h : linesT (filL false (.sta d.sta :: (d.msgs.map .msg ++ d.tabs.map .tab))) = (staT d.sta ++ [10]) ++ (d.msgs.flatMap (fun m => linesT (msgL m)) ++ ((if d.tabs.isEmpty then [] else [10]) ++ d.tabs.flatMap fun t => tabT t ++ [10])) := by
    show linesT ([staT d.sta] ++ filL false (d.msgs.map .msg ++ d.tabs.map .tab)) = _
    rw [linesT_app, filL_msgs]
    simp [linesT]
  unfold nodL dbT dbHead
  cases d.has
  · rw [show (if false = true then [NodeD.ver d.ver] else []) = [] from rfl, List.nil_append, h]
    simp
  · show linesT ([verT d.ver] ++ filL false (.sta d.sta :: (d.msgs.map .msg ++ d.tabs.map .tab))) = _
    rw [linesT_app, h]
    simp [linesT]
theorem filL_ne (d : DbD) : filL false (nodL d) ≠ [] := by
  unfold nodL
  cases d.has <;> simp [filL, partL]
end Go.Proofs.YtampdbkafkcfdaaGreatDoor

namespace Go.Proofs.YtampdbkafkcfdaaGreatDoor
set_option linter.unusedVariables false
open Go.RowKit Go.Shelf

def numV (id : Nat) (wide : Bool) : Value := .tuple #[.string ⟨(if numB id then numT id wide else []).toArray⟩, .bool (numB id)]
theorem itoa_nat (n : Nat) : Lib.itoa (n : Int) = Lib.decDigits n := by
  unfold Lib.itoa
  rw [if_neg (by omega), Int.toNat_natCast]

set_option maxHeartbeats 2000000 in
theorem pnumber_any (id : Nat) (hid : id < 4294967296) (wide : Bool) (w : World) (hp : PowTab w) :
    Calls Tryz.prog 59 #[.int .u32 (id : Nat), .bool wide] w fun e w' => e = .returned (numV id wide) ∧ Below w.heap.size w w' := by
  obtain ⟨V, hV⟩ : ∃ V, V = numV id wide := ⟨_, rfl⟩
  rw [← hV]
  unfold numV numB numT at hV
  by_cases h : id < 2147483648
  · have h' : ¬ (2147483648 : Int) ≤ id := by omega
    rw [decide_eq_true h] at hV
    cases wide
    · have HV := Lib.hid (show V = .tuple #[.string ⟨(Lib.decDigits id).toArray⟩, .bool true] by rw [hV]; simp)
      clear hV
      have c := fmtUint_any id (by omega) w hp
      have hw1 : IntKind.u64.wrap (id : Int) = id := by unfold IntKind.wrap; simp [IntKind.bits, IntKind.signed]; omega
      generalize Lib.decDigits id = D at *
      clear hp
      go_enter Tryz.func59, Tryz.ntmps59
      go_wp2_with fail
      with_reducible refine c.mono ?_
      rintro e w1 ⟨rfl, hb⟩
      go_wp2_with fail
      go_ret2
      exact ⟨congrArg Ending.returned HV.out.symm, hb⟩
    · have HV := Lib.hid (show V = .tuple #[.string ⟨(Lib.decDigits (id + 2147483648)).toArray⟩, .bool true] by rw [hV]; simp)
      clear hV
      have c := fmtUint_any (id + 2147483648) (by omega) w hp
      have hor : bits .or .u32 (id : Int) 2147483648 = (id : Int) + 2147483648 := bits_join_low .u32 32 (by decide) wraps_u32 31 _ _ (by omega) (by omega) (by omega) (by decide) (by decide) (by decide)
      have hw1 : IntKind.u64.wrap ((id : Int) + 2147483648) = (id : Int) + 2147483648 := by unfold IntKind.wrap; simp [IntKind.bits, IntKind.signed]; omega
      generalize Lib.decDigits (id + 2147483648) = D at *
      rw [show ((id + 2147483648 : Nat) : Int) = (id : Int) + 2147483648 by omega] at c
      clear hp
      go_enter Tryz.func59, Tryz.ntmps59
      go_wp2_with fail
      with_reducible refine c.mono ?_
      rintro e w1 ⟨rfl, hb⟩
      go_wp2_with fail
      go_ret2
      exact ⟨congrArg Ending.returned HV.out.symm, hb⟩
  · have h' : (2147483648 : Int) ≤ id := by omega
    rw [decide_eq_false h] at hV
    have HV := Lib.hid (show V = .tuple #[.string ⟨#[]⟩, .bool false] by rw [hV]; simp)
    clear hV hp
    go_enter Tryz.func59, Tryz.ntmps59
    go_wp2_with fail
    go_ret2
    exact ⟨congrArg Ending.returned HV.out.symm, Below.refl _ _⟩
end Go.Proofs.YtampdbkafkcfdaaGreatDoor

namespace Go.Proofs.YtampdbkafkcfdaaGreatDoor
set_option linter.unusedVariables false
open Go.RowKit Go.Shelf

/-- a signal whose numbers and texts are bounded -/
structure SxOK (x : SigX) : Prop where
  d : SigOK x.d
  n : x.rs.length ≤ 4000000
  w : ∀ r ∈ x.rs, r.length ≤ 9223372036854775807
structure MsgOK (m : MsgD) : Prop where
  id : m.id < 4294967296
  sz : In64 m.size
  nm : m.name.length ≤ 100000000
  sn : m.sender.length ≤ 100000000
  sg : ∀ x ∈ m.sigs, SxOK x

theorem sig_len (u k : Nat) (hk : u + 600 ≤ k) (NM R I1 I2 O F0 F1 F2 F3 QU J : List UInt8) (a : NM.length ≤ 64) (b : R.length ≤ 22) (c : I1.length ≤ 21) (d : I2.length ≤ 21) (e : O.length ≤ 3) (f0 : F0.length ≤ 100) (f1 : F1.length ≤ 100) (f2 : F2.length ≤ 100) (f3 : F3.length ≤ 100)
    (q : QU.length ≤ u) :
    ([83, 71, 95, 32] ++ (NM ++ (R ++ ([32, 58, 32] ++ (I1 ++ ([124] ++ (I2 ++ (O ++ ([32, 40] ++ (F0 ++ ([44] ++ (F1 ++ ([41, 32, 91] ++ (F2 ++ ([124] ++ (F3 ++ ([93, 32] ++ (QU ++ ([32] ++ J))))))))))))))))))).length ≤ k + J.length := by
  simp only [List.length_append, List.length_cons, List.length_nil]
  generalize NM.length = n1 at *
  generalize R.length = n2 at *
  generalize I1.length = n3 at *
  generalize I2.length = n4 at *
  generalize O.length = n5 at *
  generalize F0.length = n6 at *
  generalize F1.length = n7 at *
  generalize F2.length = n8 at *
  generalize F3.length = n9 at *
  generalize QU.length = n10 at *
  generalize J.length = n11 at *
  simp only [Nat.zero_add, ← Nat.add_assoc]
  omega
theorem sigT_len (x : SigX) (h : SxOK x) (hb : sxB x = true) : (sxT x).length ≤ 20000 + 66 * x.rs.length := by
  unfold sxB at hb
  have hb2 := hb
  unfold sigB allF at hb2
  simp only [Bool.and_eq_true] at hb2
  obtain ⟨b1, ⟨f1, f2, f3, f4⟩, b3, b4, b5, b6, b7, b8⟩ := hb2
  have h1 := frac7_len _ _ h.d.s1 h.d.s2 f1
  have h2 := frac7_len _ _ h.d.o1 h.d.o2 f2
  have h3 := frac7_len _ _ h.d.m1 h.d.m2 f3
  have h4 := frac7_len _ _ h.d.x1 h.d.x2 f4
  have h5 := quo7_len x.d.unit b3
  have h6 : x.d.name.length ≤ 64 := by unfold wordB nameB at b4; simp at b4; omega
  have h7 := join_words x.rs [44] (by decide) b8
  have h8 := rol7_len x.d.role x.d.branch h.d.br
  have h9 := itoa7_len x.d.start h.d.st
  have h10 := itoa7_len x.d.size h.d.sz
  have h11 := h.n
  have h12 : (ordL x.d.moto x.d.signed).length = 3 := rfl
  exact Nat.le_trans (sig_len 10000 20000 (by decide) x.d.name _ _ _ _ _ _ _ _ _ _ h6 h8 h9 h10 (Nat.le_of_eq h12) h1 h2 h3 h4 h5) (Nat.add_le_add_left h7 _)
theorem word_len {s : List UInt8} (h : wordB s = true) : s.length ≤ 64 := by unfold wordB nameB at h; simp at h; omega
theorem numT_len (id : Nat) (wide : Bool) (h : numB id = true) : (numT id wide).length ≤ 20 := by
  unfold numB at h
  have := of_decide_eq_true h
  unfold numT
  exact dec_len64 (by split <;> omega)
theorem linesT_snoc (l : List (List UInt8)) (x : List UInt8) : linesT (l ++ [x]) = linesT l ++ (x ++ [10]) := by rw [linesT_app]; simp [linesT]
theorem sigs_len (l : List SigX) (h : ∀ x ∈ l, SxOK x) (hb : l.all sxB = true) : (linesT (l.map fun s => 32 :: sxT s)).length ≤ 300000000 * l.length := by
  induction l with
  | nil => simp [linesT]
  | cons x l ih =>
    rw [List.all_cons, Bool.and_eq_true] at hb
    have h1 := ih (fun y hy => h y (List.mem_cons_of_mem _ hy)) hb.2
    have h2 := sigT_len x (h x (by simp)) hb.1
    have h3 := (h x (by simp)).n
    have e : linesT ((x :: l).map fun s => 32 :: sxT s) = ((32 :: sxT x) ++ [10]) ++ linesT (l.map fun s => 32 :: sxT s) := rfl
    rw [e]
    simp only [List.length_append, List.length_cons, List.length_nil]
    omega

end Go.Proofs.YtampdbkafkcfdaaGreatDoor

namespace Go.Proofs.YtampdbkafkcfdaaGreatDoor
set_option linter.unusedVariables false
open Go.RowKit Go.Shelf

structure TabOK (t : TabD) : Prop where
  id : t.id < 4294967296
  sg : t.sig.length ≤ 100000000
  rw : ∀ r ∈ t.rows, In64 r.1 ∧ r.2.length ≤ 100000000

theorem rowT_len (r : Int × List UInt8) (h : In64 r.1) (hb : rowB r = true) : (rowT r).length ≤ 10100 := by
  have h1 := itoa7_len r.1 h
  have h2 := quo7_len r.2 hb
  unfold rowT
  simp only [List.length_cons, List.length_append]
  omega
theorem rows_len (l : List (Int × List UInt8)) (h : ∀ r ∈ l, In64 r.1) (hb : l.all rowB = true) : (l.flatMap rowT).length ≤ 10100 * l.length := by
  induction l with
  | nil => simp
  | cons x l ih =>
    rw [List.all_cons, Bool.and_eq_true] at hb
    have h1 := ih (fun y hy => h y (List.mem_cons_of_mem _ hy)) hb.2
    have h2 := rowT_len x (h x (by simp)) hb.1
    rw [List.flatMap_cons, List.length_append, List.length_cons]
    omega

end Go.Proofs.YtampdbkafkcfdaaGreatDoor
