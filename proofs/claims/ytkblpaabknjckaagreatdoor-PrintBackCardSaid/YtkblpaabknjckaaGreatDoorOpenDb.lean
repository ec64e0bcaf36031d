/-
  A database that is handed in, opened. (Printed by gen_open.py.)
-/
import Derived.Test.YtkblpaabknjckaaGreatDoorBaseD
import Derived.WalkKit
import Derived.WalkSpells
import Derived.WalkLawsBesides
import Derived.ProofKit
import Derived.OpenShut
import Derived.SizedLaws
import Derived.Deep.CondSized
import Derived.Deep.Slices
import Derived.Lib.Hide
import Derived.Deep.RegionLaw
import Derived.Test.YtkblpaabknjckaaGreatDoorCalm
import Derived.Test.YtkblpaabknjckaaGreatDoorRows
import Derived.Stop.Asserts
import Derived.Deep.DeepCutAuto
import Derived.Deep.CutBlock
import Derived.Stop.IfaceNil
import Derived.Lib.IfaceEq
import Derived.Test.YtkblpaabknjckaaGreatDoorBaseC
import Derived.Test.YtkblpaabknjckaaGreatDoorAppC
import Derived.Test.YtkblpaabknjckaaGreatDoorCopC
import Derived.Test.YtkblpaabknjckaaGreatDoorNodD
import Derived.Test.YtkblpaabknjckaaGreatDoorSamA
import Derived.Test.YtkblpaabknjckaaGreatDoorMorP
import Derived.Test.YtkblpaabknjckaaGreatDoorAltD
import Derived.Test.YtkblpaabknjckaaGreatDoorPrnR
import Derived.Deep.Strs
import Derived.Test.YtkblpaabknjckaaGreatDoorParX
import Derived.Test.YtkblpaabknjckaaGreatDoorMorV
import Derived.Test.YtkblpaabknjckaaGreatDoorPrnPF
import Derived.Test.YtkblpaabknjckaaGreatDoorPlain
import Derived.Test.YtkblpaabknjckaaGreatDoorPrsS
import Derived.Test.YtkblpaabknjckaaGreatDoorRd6A

namespace Go.Proofs.YtkblpaabknjckaaGreatDoor
set_option linter.unusedVariables false
open Go.ChangeShapes Go.WideShapes Go.ChangeAt Go.RowKit

/-! ### the frame of a law's proof -/

/-! ### flat data: cells that are determined by the data -/

def IsFlat (P : Program) (t : TypeId) {α : Type} (size : Nat) (en : α → List Value) (ok : α → Prop) : Prop :=
  P.cellsOf t = size ∧ (∀ a, (en a).length = size) ∧
    ∀ (H : Type) (enc : TypeId × Value → H) (w : World) (base : Nat) (spare : Nat → Bool) (held : Bool) (fuel : Nat) (cs : List Value) (x : DataW H × List MemPlace),
      DataW.trod enc P w base spare held fuel t cs = some x → ∃ a, ok a ∧ cs = en a

theorem flat_string {P : Program} {t : TypeId} (h : P.underlying t = some .string) (hc : P.cellsOf t = 1) : IsFlat P t 1 enStr (fun s => s.size ≤ maxLen) :=
  ⟨hc, fun _ => rfl, fun _ _ _ _ _ _ _ _ _ hx => let ⟨b, h1, _, h3⟩ := DataW.trod_string h hx; ⟨b, h3, h1⟩⟩

/-! ### slices as0 lists of cells -/

/-- A slice of flat elements, opened. -/
theorem open_flat {H : Type} {enc : TypeId × Value → H} {P : Program} {w : World} {t e : TypeId} {α : Type} [Inhabited α] {size : Nat} {en : α → List Value} {ok : α → Prop} (ht : P.underlying t = some (.slice e)) (hf : IsFlat P e size en ok)
    {base : Nat} {held : Bool} {fuel : Nat} {cs : List Value} {d : DataW H} {ps : List MemPlace} (h : DataW.trod enc P w base (fun _ => true) held fuel t cs = some (d, ps)) :
    ∃ (a : Option Addr) (cap : Nat) (xs : List α), cs = [.slice a xs.length cap] ∧ Sl w a xs.length cap size (xs.flatMap en) ∧ (∀ x ∈ xs, ok x) ∧
      ((d = .nil ∧ xs = [] ∧ cap = 0) ∨ ∃ els sp, d = .slice els sp ∧ els.length + sp.length = cap) := by
  obtain ⟨hc, hl, hd⟩ := hf
  rcases Deep.open_slice ht h with ⟨hcs, hx⟩ | ⟨a, len, cap, m, n, D, Pl, hcs, hb, hle, hmax, hm, hx, hel⟩
  · refine ⟨none, 0, [], hcs, Sl.mk0 w size, by simp, .inl ⟨?_, rfl, rfl⟩⟩
    exact congrArg Prod.fst hx
  · rw [if_pos rfl] at hm
    subst hm
    obtain ⟨F, hF⟩ := Deep.choose_lt (α := α) (p := fun i x => ok x ∧ w.cells? base (a.add (i * size)) size = some (en x)) (n := m) (fun i hi => by
      obtain ⟨cs', h1, h2⟩ := hel i hi
      obtain ⟨x, hok, rfl⟩ := hd H enc w base _ held n cs' _ h2
      rw [hc] at h1
      exact ⟨x, hok, h1⟩)
    refine ⟨some a, m, (List.range len).map F, by simpa using hcs, ⟨?_, by simpa using hle, hmax, by simp, ?_⟩, ?_, .inr ⟨_, _, congrArg Prod.fst hx, by simp; omega⟩⟩
    · rw [flatMap_length hl]
    · intro j hj
      rw [flatMap_length hl] at hj
      simp only [List.length_map, List.length_range] at hj
      have hs : 0 < size := by
        rcases Nat.eq_zero_or_pos size with h0 | h0
        · rw [h0] at hj; simp at hj
        · exact h0
      have hi : j / size < len := Nat.div_lt_of_lt_mul (by rw [Nat.mul_comm]; exact hj)
      have hr : j % size < size := Nat.mod_lt _ hs
      obtain ⟨hok, hcell⟩ := hF (j / size) (by omega)
      have key : w.cell? ((a.add (j / size * size)).add (j % size)) = (en (F (j / size)))[j % size]? := by
        exact (World.cells?_some hcell).2.2 (j % size) hr
      have hjj : j / size * size + j % size = j := by rw [Nat.mul_comm]; exact Nat.div_add_mod j size
      have hget : ((List.range len).map F).flatMap en = ((List.range len).map F).flatMap en := rfl
      have hg := flatMap_get hl ((List.range len).map F) (j / size) (by simpa using hi) (j % size) hr
      rw [hjj] at hg
      simp only [List.getElem_map, List.getElem_range] at hg
      rw [Deep.add_add, hjj] at key
      have hne : (en (F (j / size)))[j % size]?.isSome := by simp [hl, hr]
      obtain ⟨u, hu⟩ := Option.isSome_iff_exists.1 hne
      rw [hu] at key
      obtain ⟨ab, ao, as0⟩ := a
      have hspot := World.cell?_spot key
      unfold Addr.add at key hspot
      by_cases hj0 : j = 0
      · rw [if_pos hj0] at key hspot
        have hspot : as0 = none := hspot
        subst hspot
        exact ⟨ab, ao, rfl, by rw [hg, hu, hj0]; exact key⟩
      · rw [if_neg hj0] at key
        have h00 : w.cell? ((⟨ab, ao, as0⟩ : Addr).add 0) = (en (F 0))[0]? := by
          have := (World.cells?_some (hF 0 (Nat.lt_of_le_of_lt (Nat.zero_le _) (Nat.lt_of_lt_of_le hi hle))).2).2.2 0 hs
          simpa [Deep.add_add] using this
        have hne0 : (en (F 0))[0]?.isSome := by simp [hl, hs]
        obtain ⟨u0, hu0⟩ := Option.isSome_iff_exists.1 hne0
        rw [hu0] at h00
        have hs0 := World.cell?_spot h00
        simp [Addr.add] at hs0
        subst hs0
        exact ⟨ab, ao, rfl, by rw [hg, hu]; exact key⟩
    · intro x hx'
      obtain ⟨i, hi, rfl⟩ := List.mem_map.1 hx'
      exact (hF i (by have := List.mem_range.1 hi; omega)).1

/-! ### typed slices, and what a call owns -/

theorem i64_bd {n : Int} (h : (Lit.int .i64 n).wf = true) : -9223372036854775808 ≤ n ∧ n ≤ 9223372036854775807 := by
  simpa [Lit.wf, IntKind.min, IntKind.max, IntKind.signed, IntKind.bits] using h
theorem u64_bd {n : Int} (h : (Lit.int .u64 n).wf = true) : 0 ≤ n ∧ n ≤ 18446744073709551615 := by
  simpa [Lit.wf, IntKind.min, IntKind.max, IntKind.signed, IntKind.bits] using h
theorem u32_bd {n : Int} (h : (Lit.int .u32 n).wf = true) : 0 ≤ n ∧ n ≤ 4294967295 := by
  simpa [Lit.wf, IntKind.min, IntKind.max, IntKind.signed, IntKind.bits] using h
end Go.Proofs.YtkblpaabknjckaaGreatDoor

namespace Go.Proofs.YtkblpaabknjckaaGreatDoor
set_option linter.unusedVariables false
open Go.RowKit Go.Extern.Stop Go.Stop Go.Extern

/-! ### busbarkit's Num -/
theorem num_nil (w : World) : Calls Tryz.prog 14 #[.nilIface] w fun e w' => e = .returned (.int .i64 0) ∧ w' = w := by
  go_enter Tryz.func14, Tryz.ntmps14
  go_wp2
  go_ret
  exact ⟨rfl, rfl⟩

end Go.Proofs.YtkblpaabknjckaaGreatDoor

namespace Go.Proofs.YtkblpaabknjckaaGreatDoor
set_option linter.unusedVariables false
open Go.RowKit

section
variable {α : Type} {rd : World → α → List Value → Prop} {size : Nat} {a : Option Addr} {cap : Nat} {xs : List α} {w w' : World}

theorem SlRd.nil (w : World) (rd : World → α → List Value → Prop) (size : Nat) : SlRd w rd size none 0 ([] : List α) := ⟨[], SlOf.nil w Row.en size, .nil⟩
variable {base : Nat} {e : TypeId} {v : Value}
end

/-- a slice whose elements are read through memory, opened -/
theorem open_rd {H : Type} {enc : TypeId × Value → H} {P : Program} {w : World} {t e : TypeId} {α : Type} {size : Nat} {rd : World → α → List Value → Prop} {Q : α → DataW H → Prop} (ht : P.underlying t = some (.slice e)) (hc : P.cellsOf e = size)
    {base : Nat} {held : Bool} (hd : ∀ (fuel : Nat) (cs : List Value) (x : DataW H × List MemPlace), DataW.trod enc P w base (fun _ => true) held fuel e cs = some x → ∃ y, rd w y cs ∧ cs.length = size ∧ Q y x.1)
    {fuel : Nat} {cs : List Value} {d : DataW H} {ps : List MemPlace} (h : DataW.trod enc P w base (fun _ => true) held fuel t cs = some (d, ps)) :
    ∃ (a : Option Addr) (cap : Nat) (xs : List α), cs = [.slice a xs.length cap] ∧ SlRd w rd size a cap xs ∧ (∀ x ∈ xs, ∃ z, Q x z) ∧
      ((d = .nil ∧ xs = [] ∧ cap = 0) ∨ ∃ els sp, d = .slice els sp ∧ els.length + sp.length = cap) := by
  rcases Deep.open_slice ht h with ⟨hcs, hx⟩ | ⟨a, len, cap, m, n, D, Pl, hcs, hb, hle, hmax, hm, hx, hel⟩
  · exact ⟨none, 0, [], hcs, SlRd.nil _ _ _, by simp, .inl ⟨congrArg Prod.fst hx, rfl, rfl⟩⟩
  · rw [if_pos rfl] at hm
    subst hm
    obtain ⟨F, hF⟩ := Deep.choose_lt (α := Row size) (p := fun i r => (∃ y, rd w y r.1 ∧ ∃ z, Q y z) ∧ w.cells? base (a.add (i * size)) size = some r.1) (n := m) (fun i hi => by
      obtain ⟨cs', h1, h2⟩ := hel i hi
      obtain ⟨y, hy, hly, hq⟩ := hd n cs' _ h2
      rw [hc] at h1
      exact ⟨⟨cs', hly⟩, ⟨y, hy, _, hq⟩, h1⟩)
    have hrows : ∀ l : List (Row size), (∀ r ∈ l, ∃ y, rd w y r.1 ∧ ∃ z, Q y z) → ∃ ys : List α, All2 (fun x (r : Row size) => rd w x r.1) ys l ∧ ∀ x ∈ ys, ∃ z, Q x z := by
      intro l
      induction l with
      | nil => exact fun _ => ⟨[], .nil, by simp⟩
      | cons r l ih =>
        intro hr
        obtain ⟨ys, h1, h2⟩ := ih fun r' hr' => hr r' (List.mem_cons_of_mem _ hr')
        obtain ⟨y, h3, h4⟩ := hr r (by simp)
        exact ⟨y :: ys, .cons h3 h1, fun x hx' => by
          rcases List.mem_cons.1 hx' with rfl | hx'
          · exact h4
          · exact h2 x hx'⟩
    obtain ⟨ys, hys, hqs⟩ := hrows ((List.range len).map F) (by
      intro r hr
      obtain ⟨i, hi, rfl⟩ := List.mem_map.1 hr
      exact (hF i (by have := List.mem_range.1 hi; omega)).1)
    have hyl : ys.length = len := by rw [hys.len]; simp
    refine ⟨some a, m, ys, by rw [hyl]; exact hcs, ⟨(List.range len).map F, ⟨?_, by simpa using hle, hmax, by simp, ?_⟩, hys⟩, hqs, .inr ⟨_, _, congrArg Prod.fst hx, by simp; omega⟩⟩
    · rw [flatMap_length Row.en_len]
    · intro j hj
      rw [flatMap_length Row.en_len] at hj
      simp only [List.length_map, List.length_range] at hj
      have hs : 0 < size := by
        rcases Nat.eq_zero_or_pos size with h0 | h0
        · rw [h0] at hj; simp at hj
        · exact h0
      have hi : j / size < len := Nat.div_lt_of_lt_mul (by rw [Nat.mul_comm]; exact hj)
      have hr : j % size < size := Nat.mod_lt _ hs
      obtain ⟨hok, hcell⟩ := hF (j / size) (by omega)
      have key : w.cell? ((a.add (j / size * size)).add (j % size)) = (F (j / size)).1[j % size]? := by
        exact (World.cells?_some hcell).2.2 (j % size) hr
      have hjj : j / size * size + j % size = j := by rw [Nat.mul_comm]; exact Nat.div_add_mod j size
      have hg := flatMap_get Row.en_len ((List.range len).map F) (j / size) (by simpa using hi) (j % size) hr
      rw [hjj] at hg
      simp only [List.getElem_map, List.getElem_range] at hg
      rw [Deep.add_add, hjj] at key
      have hne : (F (j / size)).1[j % size]?.isSome := by
        rw [List.getElem?_eq_getElem (by rw [(F (j / size)).2]; exact hr)]; rfl
      obtain ⟨u, hu⟩ := Option.isSome_iff_exists.1 hne
      rw [hu] at key
      obtain ⟨ab, ao, asp⟩ := a
      have hspot := World.cell?_spot key
      unfold Addr.add at key hspot
      by_cases hj0 : j = 0
      · rw [if_pos hj0] at key hspot
        have hspot : asp = none := hspot
        subst hspot
        exact ⟨ab, ao, rfl, by rw [hg]; unfold Row.en; rw [hu, hj0]; exact key⟩
      · rw [if_neg hj0] at key
        have h00 : w.cell? ((⟨ab, ao, asp⟩ : Addr).add 0) = (F 0).1[0]? := by
          have := (World.cells?_some (hF 0 (Nat.lt_of_le_of_lt (Nat.zero_le _) (Nat.lt_of_lt_of_le hi hle))).2).2.2 0 hs
          simpa [Deep.add_add] using this
        have hne0 : (F 0).1[0]?.isSome := by
          rw [List.getElem?_eq_getElem (by rw [(F 0).2]; exact hs)]; rfl
        obtain ⟨u0, hu0⟩ := Option.isSome_iff_exists.1 hne0
        rw [hu0] at h00
        have hs0 := World.cell?_spot h00
        simp [Addr.add] at hs0
        subst hs0
        exact ⟨ab, ao, rfl, by rw [hg]; unfold Row.en; rw [hu]; exact key⟩
end Go.Proofs.YtkblpaabknjckaaGreatDoor

namespace Go.Proofs.YtkblpaabknjckaaGreatDoor
set_option linter.unusedVariables false
open Go.RowKit

/-! ### as0 handed in -/
/-! ### as0 made anew (the blocks are number b at least) -/
/-! ### they last -/
theorem last_fdStaN (b : Nat) : Lasts (fdStaN b) := fun w w' x cs ⟨v, h1, h2⟩ hb => ⟨v, h1, h2.keep hb (Nat.le_refl _)⟩
theorem last_fdSta : Lasts fdSta := last_fdStaN 0
theorem last_fdNode : Lasts fdNode := fun w w' x cs h hb => by
  cases x with
  | ver v => exact h
  | sta s => obtain ⟨C, h1, h2⟩ := h; exact ⟨C, h1, last_fdSta _ _ _ _ h2 hb⟩
  | msg m => obtain ⟨C, h1, h2⟩ := h; exact ⟨C, h1, last_fdMsg _ _ _ _ h2 hb⟩
  | tab t => obtain ⟨C, h1, h2⟩ := h; exact ⟨C, h1, last_fdTab _ _ _ _ h2 hb⟩
/-! ### they last while a block of another kind is written -/
theorem apt_fdStaN (b : Nat) {e : TypeId} (he : 9 ≠ e) : Apt (fdStaN b) e := fun w w' x cs k C fz ⟨v, h1, h2⟩ hk _ hb => ⟨v, h1, h2.apt he hk hb⟩
theorem apt_fdSta {e : TypeId} (he : 9 ≠ e) : Apt fdSta e := apt_fdStaN 0 he
theorem apt_fdNode {e : TypeId} (he : 9 ≠ e) (he2 : 89 ≠ e) (he3 : 93 ≠ e) : Apt fdNode e := fun w w' x cs k C fz h hk hz hb => by
  cases x with
  | ver v => exact h
  | sta s => obtain ⟨D, h1, h2⟩ := h; exact ⟨D, h1, apt_fdSta he _ _ _ _ _ _ _ h2 hk hz hb⟩
  | msg m => obtain ⟨D, h1, h2⟩ := h; exact ⟨D, h1, apt_fdMsg he he2 _ _ _ _ _ _ _ h2 hk hz hb⟩
  | tab t => obtain ⟨D, h1, h2⟩ := h; exact ⟨D, h1, apt_fdTab he3 _ _ _ _ _ _ _ h2 hk hz hb⟩
end Go.Proofs.YtkblpaabknjckaaGreatDoor

namespace Go.Proofs.YtkblpaabknjckaaGreatDoor
set_option linter.unusedVariables false
open Go.RowKit

theorem nodes_ty : SlTy Tryz.prog 23 64 1 16 := SlTy.mk' .nilIface Tryz.underlying23 (by kernel_rfl) rfl (by decide) (by decide)

end Go.Proofs.YtkblpaabknjckaaGreatDoor

namespace Go.Proofs.YtkblpaabknjckaaGreatDoor
set_option linter.unusedVariables false
open Go.RowKit

theorem msgB_z (m : MsgD) : msgB (zMsg m) = msgB m := by
  show (numB m.id && (wordB m.name && (wordB m.sender && (sizB m.size && (decide ((m.sigs.map zSig).length ≤ 64) && (m.sigs.map zSig).all sxB))))) = msgB m
  rw [List.length_map, List.all_map]
  rfl
theorem msgL_z (m : MsgD) : msgL (zMsg m) = msgL m := by
  show [] :: msgH m :: (m.sigs.map zSig).map (fun s => 32 :: sxT s) = msgL m
  rw [List.map_map]
  rfl
theorem head_z (d : DbD) : dbHead (bareD d) = dbHead d := by
  unfold dbHead bareD
  cases d.has <;> rfl
theorem dbB_bare (d : DbD) : dbB (bareD d) = dbB d := by
  have e1 : (d.msgs.map zMsg).all msgB = d.msgs.all msgB := by rw [List.all_map]; congr 1; funext m; exact msgB_z m
  have e2 : (d.tabs.map zTab).all tabB = d.tabs.all tabB := by rw [List.all_map]; rfl
  have e3 : (!d.has || verB (bareD d).ver) = (!d.has || verB d.ver) := by unfold bareD; cases d.has <;> rfl
  show ((!d.has || verB (bareD d).ver) && (staB d.sta && (decide ((d.msgs.map zMsg).length ≤ 512) && ((d.msgs.map zMsg).all msgB && (d.tabs.map zTab).all tabB)))) = dbB d
  rw [e1, e2, e3, List.length_map]
  rfl
theorem dbT_bare (d : DbD) : dbT (bareD d) = dbT d := by
  have e1 : (d.msgs.map zMsg).flatMap (fun m => linesT (msgL m)) = d.msgs.flatMap (fun m => linesT (msgL m)) := by
    rw [List.flatMap_map]
    congr 1
    funext m
    exact congrArg linesT (msgL_z m)
  have e2 : (d.tabs.map zTab).flatMap (fun t => tabT t ++ [10]) = d.tabs.flatMap fun t => tabT t ++ [10] := by rw [List.flatMap_map]; rfl
  have e3 : (d.tabs.map zTab).isEmpty = d.tabs.isEmpty := by cases d.tabs <;> rfl
  show dbHead (bareD d) ++ ((d.msgs.map zMsg).flatMap (fun m => linesT (msgL m)) ++ ((if (d.tabs.map zTab).isEmpty then [] else [10]) ++ (d.tabs.map zTab).flatMap fun t => tabT t ++ [10])) = dbT d
  rw [head_z, e1, e2, e3]
  rfl
theorem filN_bare (d : DbD) : filN (bareD d) = filN d := by unfold filN; rw [dbB_bare, dbT_bare]
theorem filT_bare (d : DbD) : filT (bareD d) = filT d := by unfold filT; rw [filN_bare, dbT_bare]

/-! ### one message more -/
end Go.Proofs.YtkblpaabknjckaaGreatDoor

namespace Go.Proofs.YtkblpaabknjckaaGreatDoor
set_option linter.unusedVariables false
open Go.RowKit Go.Shelf

def tkI (l n : Int) : Int := if l < n then 0 else l - n - 64
set_option maxHeartbeats 1000000 in
theorem take_any (g : Nat) (l n : Int) (hl : -1000 ≤ l ∧ l ≤ 100000000) (hn : 0 ≤ n ∧ n ≤ 9223372036854775807) (w : World) (hb : Blk w g #[.int .i64 l]) :
    Calls Tryz.prog 29 #[.pointer (some ⟨g, 0, none⟩), .int .i64 n] w fun e w' => e = .returned (.tuple #[]) ∧ w' = w.setCell ⟨g, 0, none⟩ (.int .i64 (tkI l n)) := by
  have f0 := hb.cell 0 _ rfl
  have f1 := hb.free 0
  by_cases h : l < n
  · have HT := Lib.hid (show tkI l n = 0 by unfold tkI; rw [if_pos h])
    generalize tkI l n = z at *
    go_enter Tryz.func29, Tryz.ntmps29
    go_wp2_with fail
    refine ⟨rfl, .tuple #[], by simp [results, Tryz.results29], rfl, ?_⟩
    rw [HT.out]
  · have HT := Lib.hid (show tkI l n = l - n - 64 by unfold tkI; rw [if_neg h])
    generalize tkI l n = z at *
    go_enter Tryz.func29, Tryz.ntmps29
    go_wp2_with fail
    refine ⟨rfl, .tuple #[], by simp [results, Tryz.results29], rfl, ?_⟩
    rw [HT.out]
end Go.Proofs.YtkblpaabknjckaaGreatDoor

namespace Go.Proofs.YtkblpaabknjckaaGreatDoor
set_option linter.unusedVariables false
open Go.RowKit Go.ChangeShapes

theorem slX_of {w : World} {a : Option Addr} {cap : Nat} (xs : List ByteArray) (h : Sl w a xs.length cap 1 (xs.flatMap enStr)) : SlX w a cap (xs.map fun s => s.data.toList) := by
  have e : (xs.map fun s : ByteArray => s.data.toList).flatMap enTx = xs.flatMap enStr := by
    rw [List.flatMap_map]
    rfl
  unfold SlX SlOf
  rw [List.length_map, e]
  exact h
theorem open_texts {H : Type} {enc : TypeId × Value → H} {w : World} {base : Nat} {held : Bool} {fuel : Nat} {cs : List Value} {d : DataW H} {ps : List MemPlace} (h : DataW.trod enc Tryz.prog w base (fun _ => true) held fuel 32 cs = some (d, ps)) :
    ∃ (a : Option Addr) (cap : Nat) (rs : List (List UInt8)), cs = [.slice a rs.length cap] ∧ SlX w a cap rs ∧ (∀ x ∈ rs, x.length ≤ maxLen) ∧
      ((d = .nil ∧ rs = [] ∧ cap = 0) ∨ ∃ els sp, d = .slice els sp ∧ els.length + sp.length = cap) := by
  obtain ⟨a, cap, xs, rfl, hs, hok, hd⟩ := open_flat Tryz.underlying32 (flat_string Tryz.underlying9 (by kernel_rfl)) h
  refine ⟨a, cap, xs.map fun s => s.data.toList, by rw [List.length_map], slX_of xs hs, ?_, ?_⟩
  · intro x hx
    obtain ⟨s, hs, rfl⟩ := List.mem_map.1 hx
    exact hok s hs
  · rcases hd with ⟨h1, rfl, h2⟩ | h1
    · exact .inl ⟨h1, rfl, h2⟩
    · exact .inr h1

def SigD.data {H : Type} (d : SigD) (z : DataW H) : DataW H := .agg [.agg [.lit (.int .i64 d.line), .lit (.int .i64 d.col)], .lit (.string d.name), .lit (.int .i64 d.role), .lit (.int .u64 (d.branch : Nat)), .lit (.int .i64 d.start), .lit (.int .i64 d.size), .lit (.bool d.moto), .lit (.bool d.signed),
  .agg [.lit (.int .i64 d.sn), .lit (.int .i64 d.sd)], .agg [.lit (.int .i64 d.on), .lit (.int .i64 d.od)], .agg [.lit (.int .i64 d.mn), .lit (.int .i64 d.md)], .agg [.lit (.int .i64 d.xn), .lit (.int .i64 d.xd)], .lit (.string d.unit), z]

set_option maxRecDepth 100000 in
theorem open_place {H : Type} {enc : TypeId × Value → H} {w : World} {base : Nat} {held : Bool} {fuel : Nat} {cs : List Value} {x : DataW H × List MemPlace} (h : DataW.trod enc Tryz.prog w base (fun _ => true) held fuel 29 cs = some x) :
    ∃ l c, cs = [.int .i64 l, .int .i64 c] ∧ x.1 = .agg [.lit (.int .i64 l), .lit (.int .i64 c)] ∧ In64 l ∧ In64 c := by
  have h2 : Tryz.prog.cellsOf 3 = 1 := by kernel_rfl
  have h3 : Tryz.prog.cellsOf 29 = 2 := by kernel_rfl
  obtain ⟨y0, y1, n, rfl, hl, z0, z1⟩ := trod_struct2 Tryz.underlying29 h
  rw [h3] at hl
  match cs, hl with
  | [c0, c1], _ =>
    simp only [h2, List.drop_zero, List.drop_succ_cons, List.take_succ_cons, List.take_zero] at z0 z1
    obtain ⟨l, e0, d0, w0⟩ := DataW.trod_int Tryz.underlying3 z0
    obtain ⟨c, e1, d1, w1⟩ := DataW.trod_int Tryz.underlying3 z1
    simp only [List.cons.injEq, and_true] at e0 e1
    subst e0 e1
    refine ⟨l, c, rfl, ?_, i64_bd w0, i64_bd w1⟩
    rw [d0, d1]
set_option maxRecDepth 100000 in
theorem open_ratc {H : Type} {enc : TypeId × Value → H} {w : World} {base : Nat} {held : Bool} {fuel : Nat} {cs : List Value} {x : DataW H × List MemPlace} (h : DataW.trod enc Tryz.prog w base (fun _ => true) held fuel 87 cs = some x) :
    ∃ l c, cs = [.int .i64 l, .int .i64 c] ∧ x.1 = .agg [.lit (.int .i64 l), .lit (.int .i64 c)] ∧ In64 l ∧ In64 c := by
  have h2 : Tryz.prog.cellsOf 2 = 1 := by kernel_rfl
  have h3 : Tryz.prog.cellsOf 87 = 2 := by kernel_rfl
  obtain ⟨y0, y1, n, rfl, hl, z0, z1⟩ := trod_struct2 Tryz.underlying87 h
  rw [h3] at hl
  match cs, hl with
  | [c0, c1], _ =>
    simp only [h2, List.drop_zero, List.drop_succ_cons, List.take_succ_cons, List.take_zero] at z0 z1
    obtain ⟨l, e0, d0, w0⟩ := DataW.trod_int Tryz.underlying2 z0
    obtain ⟨c, e1, d1, w1⟩ := DataW.trod_int Tryz.underlying2 z1
    simp only [List.cons.injEq, and_true] at e0 e1
    subst e0 e1
    refine ⟨l, c, rfl, ?_, i64_bd w0, i64_bd w1⟩
    rw [d0, d1]

set_option maxRecDepth 100000 in
set_option maxHeartbeats 1000000 in
theorem open_sig {H : Type} {enc : TypeId × Value → H} {w : World} {base : Nat} {held : Bool} {fuel : Nat} {cs : List Value} {x : DataW H × List MemPlace} (h : DataW.trod enc Tryz.prog w base (fun _ => true) held fuel 89 cs = some x) :
    ∃ (d : SigD) (rs : List (List UInt8)) (a : Option Addr) (cap : Nat) (z : DataW H), cs = (d.cells (.slice a rs.length cap)).toList ∧ SlX w a cap rs ∧ (∀ x ∈ rs, x.length ≤ maxLen) ∧ SigWf d ∧ x.1 = d.data z ∧
      ((z = .nil ∧ rs = [] ∧ cap = 0) ∨ ∃ els sp, z = .slice els sp ∧ els.length + sp.length = cap) := by
  have k1 : Tryz.prog.cellsOf 3 = 1 := by kernel_rfl
  have k2 : Tryz.prog.cellsOf 9 = 1 := by kernel_rfl
  have k3 : Tryz.prog.cellsOf 85 = 1 := by kernel_rfl
  have k4 : Tryz.prog.cellsOf 4 = 1 := by kernel_rfl
  have k5 : Tryz.prog.cellsOf 87 = 2 := by kernel_rfl
  have k6 : Tryz.prog.cellsOf 29 = 2 := by kernel_rfl
  have k7 : Tryz.prog.cellsOf 32 = 1 := by kernel_rfl
  have k8 : Tryz.prog.cellsOf 89 = 19 := by kernel_rfl
  obtain ⟨xs, n, -, rfl, hl, hlen, hf⟩ := DataW.trod_struct Tryz.underlying89 h
  rw [k8] at hl
  clear h
  match xs, hlen with
  | [y0, y1, y2, y3, y4, y5, y6, y7, y8, y9, y10, y11, y12, y13], _ =>
    match cs, hl with
    | [c0, c1, c2, c3, c4, c5, c6, c7, c8, c9, c10, c11, c12, c13, c14, c15, c16, c17, c18], _ =>
      have z0 := hf 0 _ rfl
      have z1 := hf 1 _ rfl
      have z2 := hf 2 _ rfl
      have z3 := hf 3 _ rfl
      have z4 := hf 4 _ rfl
      have z5 := hf 5 _ rfl
      have z6 := hf 6 _ rfl
      have z7 := hf 7 _ rfl
      have z8 := hf 8 _ rfl
      have z9 := hf 9 _ rfl
      have z10 := hf 10 _ rfl
      have z11 := hf 11 _ rfl
      have z12 := hf 12 _ rfl
      have z13 := hf 13 _ rfl
      clear hf
      simp only [List.getElem_toArray, List.getElem_cons_zero, List.getElem_cons_succ, k1, k2, k3, k4, k5, k6, k7, List.drop_zero, List.drop_succ_cons, List.take_succ_cons, List.take_zero, List.getElem?_cons_zero, List.getElem?_cons_succ] at z0 z1 z2 z3 z4 z5 z6 z7 z8 z9 z10 z11 z12 z13
      obtain ⟨ln, cl, e0, d0, -, -⟩ := open_place z0
      obtain ⟨nm, e1, d1, w1⟩ := DataW.trod_string Tryz.underlying9 z1
      obtain ⟨ro, e2, d2, w2⟩ := DataW.trod_int Tryz.underlying3 z2
      obtain ⟨br, e3, d3, w3⟩ := DataW.trod_int Tryz.underlying85 z3
      obtain ⟨st, e4, d4, w4⟩ := DataW.trod_int Tryz.underlying3 z4
      obtain ⟨sz, e5, d5, w5⟩ := DataW.trod_int Tryz.underlying3 z5
      obtain ⟨mo, e6, d6⟩ := DataW.trod_bool Tryz.underlying4 z6
      obtain ⟨si, e7, d7⟩ := DataW.trod_bool Tryz.underlying4 z7
      obtain ⟨s1, s2, e8, d8, w8, w8'⟩ := open_ratc z8
      obtain ⟨o1, o2, e9, d9, w9, w9'⟩ := open_ratc z9
      obtain ⟨m1, m2, e10, d10, w10, w10'⟩ := open_ratc z10
      obtain ⟨x1, x2, e11, d11, w11, w11'⟩ := open_ratc z11
      obtain ⟨un, e12, d12, w12⟩ := DataW.trod_string Tryz.underlying9 z12
      obtain ⟨a, cap, rs, e13, hs, hok, hd⟩ := open_texts z13
      simp only [List.cons.injEq, and_true] at e0 e1 e2 e3 e4 e5 e6 e7 e8 e9 e10 e11 e12 e13
      obtain ⟨rfl, rfl⟩ := e0
      obtain ⟨rfl, rfl⟩ := e8
      obtain ⟨rfl, rfl⟩ := e9
      obtain ⟨rfl, rfl⟩ := e10
      obtain ⟨rfl, rfl⟩ := e11
      subst e1 e2 e3 e4 e5 e6 e7 e12 e13
      have hbr := u64_bd w3
      obtain ⟨br, rfl⟩ := Int.eq_ofNat_of_zero_le hbr.1
      refine ⟨⟨ln, cl, nm.data.toList, ro, br, st, sz, mo, si, s1, s2, o1, o2, m1, m2, x1, x2, un.data.toList⟩, rs, a, cap, y13.1, rfl, hs, hok, ⟨i64_bd w2, by have := hbr.2; simp only; omega, i64_bd w4, i64_bd w5, w8, w8', w9, w9', w10, w10', w11, w11', w1, w12⟩, ?_, hd⟩
      simp only [List.map_cons, List.map_nil, d0, d1, d2, d3, d4, d5, d6, d7, d8, d9, d10, d11, d12]
      rfl
end Go.Proofs.YtkblpaabknjckaaGreatDoor

namespace Go.Proofs.YtkblpaabknjckaaGreatDoor
set_option linter.unusedVariables false
open Go.RowKit

set_option maxRecDepth 100000 in
set_option maxHeartbeats 16000000 in
theorem nlist_any (x : DbD) (hf : DbFit x) (w : World) (cs : Array Value) (hx : rdDb w x cs.toList) :
    Calls Tryz.prog 13 #[.agg cs] w fun e w' => ∃ v, e = .returned v ∧ OwnRd w' w.heap.size 64 fdNode 1 v (nodL x) ∧ Below w.heap.size w w' := by
  obtain ⟨a, cap, b, cb, c, cc, ecs, hs, hm, ht⟩ := hx
  obtain rfl : cs = x.cells (.slice a x.sta.names.length cap) (.slice b x.msgs.length cb) (.slice c x.tabs.length cc) := Array.toList_inj.1 ecs
  clear ecs
  have CS := Lib.hid (fun W (hb : Below w.heap.size w W) => nstations_any x.sta W #[.int .i64 x.sta.line, .int .i64 x.sta.col, .slice a x.sta.names.length cap] ⟨a, cap, rfl, hs.keep hb (Nat.le_refl _)⟩ (by have := hf.nn; omega))
  have HM := Lib.hid hm
  have HTB := Lib.hid ht
  have HFT := Lib.hid hf
  have hmm := hf.mm
  have htt := hf.tt
  have e0 := DbD.cells_size x (.slice a x.sta.names.length cap) (.slice b x.msgs.length cb) (.slice c x.tabs.length cc)
  have HC := Lib.hid (show x.cells (.slice a x.sta.names.length cap) (.slice b x.msgs.length cb) (.slice c x.tabs.length cc) = #[.bool x.has, .int .i64 x.ver.line, .int .i64 x.ver.col, .string ⟨x.ver.text.toArray⟩, .int .i64 x.sta.line, .int .i64 x.sta.col, .slice a x.sta.names.length cap, .slice b x.msgs.length cb, .slice c x.tabs.length cc] from rfl)
  have HND := Lib.hid (show nodL x = (if x.has then [NodeD.ver x.ver] else []) ++ (NodeD.sta x.sta :: (x.msgs.map .msg ++ x.tabs.map .tab)) from rfl)
  clear hs hm ht hf
  generalize x.cells (.slice a x.sta.names.length cap) (.slice b x.msgs.length cb) (.slice c x.tabs.length cc) = C at *
  generalize x.sta.names.length = n1 at *
  obtain ⟨zb, -, hbz⟩ := box1 w C 38
  have HBZ := Lib.hid hbz
  have ZB := Lib.hid zb
  have HVD : Hid (x.ver.cells = #[.int .i64 x.ver.line, .int .i64 x.ver.col, .string ⟨x.ver.text.toArray⟩]) := Lib.hid rfl
  have hown0 : OwnRd (w.alloc (.cells C 38)) (w.heap.size + 1) 64 fdNode 1 (.slice none 0 0) [] := OwnRd.nil _ _ _ _ _
  have hbel0 : Below (w.heap.size + 1) (w.alloc (.cells C 38)) (w.alloc (.cells C 38)) := Below.refl _ _
  have hum := Tryz.underlying72
  have hut := Tryz.underlying76
  clear zb hbz
  have g0 : ∀ h, C[0]'h = .bool x.has := by rw [HC.out]; exact fun _ => rfl
  have g1 : ∀ h, C[1]'h = .int .i64 x.ver.line := by rw [HC.out]; exact fun _ => rfl
  have g2 : ∀ h, C[2]'h = .int .i64 x.ver.col := by rw [HC.out]; exact fun _ => rfl
  have g3 : ∀ h, C[3]'h = .string ⟨x.ver.text.toArray⟩ := by rw [HC.out]; exact fun _ => rfl
  have g4 : ∀ h, C[4]'h = .int .i64 x.sta.line := by rw [HC.out]; exact fun _ => rfl
  have g5 : ∀ h, C[5]'h = .int .i64 x.sta.col := by rw [HC.out]; exact fun _ => rfl
  have g6 : ∀ h, C[6]'h = .slice a n1 cap := by rw [HC.out]; exact fun _ => rfl
  generalize x.has = hv at *
  obtain ⟨pre, hpre⟩ : ∃ pre : List NodeD, pre = (if hv then [NodeD.ver x.ver] else []) := ⟨_, rfl⟩
  rw [← hpre] at HND
  have hpl : pre.length ≤ 1 := by rw [hpre]; cases hv <;> simp
  cases hv
  obtain rfl : pre = [] := hpre
  have hown1 := hown0
  have hbel1 := hbel0
  generalize ([] : List NodeD) = pre at hown1 HND hpl
  have HBW := Lib.hid (HBZ.out.trans (hbel1.mono (Nat.le_succ _)))
  clear hown0 hbel0
  go_enter Tryz.func13, Tryz.ntmps13
  go_wp2_with fail
  rotate_left
  obtain rfl : pre = [NodeD.ver x.ver] := hpre
  go_enter Tryz.func13, Tryz.ntmps13
  go_wp2_with (at_builtin; go_loud (refine wpList_append_rd last_fdNode nodes_ty [] (NodeD.ver x.ver) hown0 hbel0 (by simp) (by simp) (by show _ = _; rw [HVD.out]) rfl (by simp [Value.oneCell']) (apt_fdNode (by decide) (by decide) (by decide)) ?_ (hx := by rw [World.size_alloc]; rfl)))
  rintro v1 w1 hown1 hbel1 -
  clear hown0 hbel0
  have HBW := Lib.hid (HBZ.out.trans (hbel1.mono (Nat.le_succ _)))
  have B1 := ZB.out.keep hbel1 (by simp)
  rw [HC.out] at B1
  have f4 := B1.cell 4 _ rfl
  have f5 := B1.cell 5 _ rfl
  have f6 := B1.cell 6 _ rfl
  clear B1
  go_wp2_with fail
  generalize [NodeD.ver x.ver] = pre at hown1 HND hpl
  all_goals
    with_reducible refine (CS.out _ HBW.out).mono ?_
    rintro e w2 ⟨C2, rfl, hfd, hb⟩
    have hbel2 := hbel1.trans (hb.mono (by first | exact Nat.le_of_eq (by simp) | (have h := hbel1.size; simpa using h)))
    have hown2 := hown1.keep last_fdNode hb
    clear hown1 hbel1 hb
    go_wp2_with (at_builtin; go_loud (refine wpList_append_rd last_fdNode nodes_ty pre (NodeD.sta x.sta) hown2 hbel2 (by simp) (by omega) ⟨C2, rfl, hfd⟩ rfl (by simp [Value.oneCell']) (apt_fdNode (by decide) (by decide) (by decide)) ?_))
    rintro v3 w3 hown3 hbel3 -
    clear hown2 hbel2
    have B1 := ZB.out.keep hbel3 (by simp)
    rw [HC.out] at B1
    have f7 := B1.cell 7 _ rfl
    clear B1
    have HO := Lib.hid hown3
    have HBL := Lib.hid hbel3
    clear hown3 hbel3 hfd
    go_wp2_with fail
    clear f7
    go_loopw [3, 26] (fun v i wr => ∃ k : Nat, k ≤ x.msgs.length ∧ i = .int .i64 (k : Nat) ∧ OwnRd wr (w.heap.size + 1) 64 fdNode 1 v ((pre ++ [NodeD.sta x.sta]) ++ (x.msgs.take k).map NodeD.msg) ∧ Below (w.heap.size + 1) (w.alloc (.cells C 38)) wr) (fun _ i _ => x.msgs.length - (intOf i).toNat)
    case atStart => exact ⟨0, Nat.zero_le _, rfl, by rw [List.take_zero, List.map_nil, List.append_nil]; exact HO.out, HBL.out⟩
    case round =>
      clear HO HBL
      obtain ⟨k, hk, rfl, hown, hbel⟩ := hrel
      have HBW := Lib.hid (HBZ.out.trans (hbel.mono (Nat.le_succ _)))
      by_cases hlt : (k : Int) < x.msgs.length
      · have hlt' : k < x.msgs.length := by omega
        obtain ⟨bb, oo, rfl, hb, ds, hcl, hrd, hrg⟩ := SlRd.at (HM.out.keep last_rdMsg HBW.out) (by decide) hlt'
        obtain ⟨hd1, hd2⟩ := rdMsg_one hrd
        have hmem := List.getElem_mem hlt'
        have hsz : (Tryz.prog.info? 72).map (·.size) = some ds.length := by rw [hcl]; exact msg_size
        obtain ⟨nb, -, hbn⟩ := box1 wr ds.toArray 72
        have c := nmessage_any x.msgs[k] _ ds.toArray (last_rdMsg _ _ _ _ hrd hbn) (HFT.out.ms _ hmem).1 (HFT.out.ms _ hmem).2
        have hbel2 := hbel.trans (hbn.mono (by have := hbel.size; simpa using this))
        have hown2 := hown.keep last_fdNode hbn
        have hlen : ((pre ++ [NodeD.sta x.sta]) ++ (x.msgs.take k).map NodeD.msg).length ≤ 4000002 := by simp; omega
        have HE := Lib.hid (show (pre ++ [NodeD.sta x.sta]) ++ (x.msgs.take (k + 1)).map NodeD.msg = ((pre ++ [NodeD.sta x.sta]) ++ (x.msgs.take k).map NodeD.msg) ++ [NodeD.msg x.msgs[k]] by rw [List.take_succ_eq_append_getElem hlt', List.map_append, List.map_cons, List.map_nil]; simp only [List.append_assoc])
        clear hown hbel hrd hbn hmem
        generalize hP : (pre ++ [NodeD.sta x.sta]) ++ (x.msgs.take k).map NodeD.msg = PP at *
        generalize x.msgs[k] = y at *
        go_wp2_with (first | (refine wpList_load_mid rfl 72 (.tmp 28) rfl bb (oo + k * 8) rfl ds _ hrg hum rfl hsz ?_) | (refine wpList_newS (Z := zeroMsgD) (cs := ds.toArray) 72 (.tmp 5) (.tmp 29) (by rw [hd1]; exact msg_zero) (by rw [hd1]; rfl) hd2 ?_) | (refine wpList_loadS nb 72 (.tmp 5) hum (by rw [hd1]; exact msg_size) ?_))
        with_reducible refine c.mono ?_
        rintro e w6 ⟨D6, rfl, hfd, hb6⟩
        have hbel6 := hbel2.trans (hb6.mono (by have := hbel2.size; simpa using this))
        have hown6 := hown2.keep last_fdNode hb6
        clear c hown2 hbel2 nb hb6 hrg
        go_wp2_with (at_builtin; go_loud (refine wpList_append_rd last_fdNode nodes_ty PP (NodeD.msg y) hown6 hbel6 (by simp) (by omega) ⟨D6, rfl, hfd⟩ rfl (by simp [Value.oneCell']) (apt_fdNode (by decide) (by decide) (by decide)) ?_))
        rintro v8 w8 hown8 hbel8 -
        clear hown6 hbel6
        go_wp2_with fail
        go_roundw
        case rel => exact ⟨k + 1, by omega, by go_num, by rw [HE.out]; exact hown8, hbel8⟩
        case measure => simp [intOf]; omega
      · obtain rfl : k = x.msgs.length := by omega
        rw [List.take_length] at hown
        have HO := Lib.hid hown
        have HBL := Lib.hid hbel
        have B1 := ZB.out.keep hbel (by simp)
        rw [HC.out] at B1
        have f8 := B1.cell 8 _ rfl
        clear B1 hown hbel hlt
        obtain ⟨kq, hkq⟩ : ∃ y, y = x.msgs.length := ⟨_, rfl⟩
        go_wp2_with fail
        clear f8
        go_loopw [3, 40] (fun v i wr => ∃ k : Nat, k ≤ x.tabs.length ∧ i = .int .i64 (k : Nat) ∧ OwnRd wr (w.heap.size + 1) 64 fdNode 1 v (((pre ++ [NodeD.sta x.sta]) ++ x.msgs.map NodeD.msg) ++ (x.tabs.take k).map NodeD.tab) ∧ Below (w.heap.size + 1) (w.alloc (.cells C 38)) wr) (fun _ i _ => x.tabs.length - (intOf i).toNat)
        case atStart => exact ⟨0, Nat.zero_le _, rfl, by rw [List.take_zero, List.map_nil, List.append_nil]; exact HO.out, HBL.out⟩
        case round =>
          clear HO HBL
          obtain ⟨k, hk, rfl, hown, hbel⟩ := hrel
          have HBW := Lib.hid (HBZ.out.trans (hbel.mono (Nat.le_succ _)))
          by_cases hlt : (k : Int) < x.tabs.length
          · have hlt' : k < x.tabs.length := by omega
            obtain ⟨bb, oo, rfl, hb, ds, hcl, hrd, hrg⟩ := SlRd.at (HTB.out.keep last_rdTab HBW.out) (by decide) hlt'
            obtain ⟨hd1, hd2⟩ := rdTab_one hrd
            have hmem := List.getElem_mem hlt'
            have hsz : (Tryz.prog.info? 76).map (·.size) = some ds.length := by rw [hcl]; exact tab_size
            obtain ⟨nb, -, hbn⟩ := box1 wr ds.toArray 76
            have c := ntable_any x.tabs[k] _ ds.toArray (last_rdTab _ _ _ _ hrd hbn) (by have := HFT.out.ts _ hmem; omega)
            have hbel2 := hbel.trans (hbn.mono (by have := hbel.size; simpa using this))
            have hown2 := hown.keep last_fdNode hbn
            have hlen : (((pre ++ [NodeD.sta x.sta]) ++ x.msgs.map NodeD.msg) ++ (x.tabs.take k).map NodeD.tab).length ≤ 8000002 := by simp; omega
            have HE := Lib.hid (show ((pre ++ [NodeD.sta x.sta]) ++ x.msgs.map NodeD.msg) ++ (x.tabs.take (k + 1)).map NodeD.tab = (((pre ++ [NodeD.sta x.sta]) ++ x.msgs.map NodeD.msg) ++ (x.tabs.take k).map NodeD.tab) ++ [NodeD.tab x.tabs[k]] by rw [List.take_succ_eq_append_getElem hlt', List.map_append, List.map_cons, List.map_nil]; simp only [List.append_assoc])
            clear hown hbel hrd hbn hmem
            generalize hP : ((pre ++ [NodeD.sta x.sta]) ++ x.msgs.map NodeD.msg) ++ (x.tabs.take k).map NodeD.tab = PP at *
            generalize x.tabs[k] = y at *
            go_wp2_with (first | (refine wpList_load_mid rfl 76 (.tmp 42) rfl bb (oo + k * 6) rfl ds _ hrg hut rfl hsz ?_) | (refine wpList_newS (Z := zeroTabD) (cs := ds.toArray) 76 (.tmp 7) (.tmp 43) (by rw [hd1]; exact tab_zero) (by rw [hd1]; rfl) hd2 ?_) | (refine wpList_loadS nb 76 (.tmp 7) hut (by rw [hd1]; exact tab_size) ?_))
            with_reducible refine c.mono ?_
            rintro e w6 ⟨D6, rfl, hfd, hb6⟩
            have hbel6 := hbel2.trans (hb6.mono (by have := hbel2.size; simpa using this))
            have hown6 := hown2.keep last_fdNode hb6
            clear c hown2 hbel2 nb hb6 hrg
            go_wp2_with (at_builtin; go_loud (refine wpList_append_rd last_fdNode nodes_ty PP (NodeD.tab y) hown6 hbel6 (by simp) (by omega) ⟨D6, rfl, hfd⟩ rfl (by simp [Value.oneCell']) (apt_fdNode (by decide) (by decide) (by decide)) ?_))
            rintro v8 w8 hown8 hbel8 -
            clear hown6 hbel6
            go_wp2_with fail
            go_roundw
            case rel => exact ⟨k + 1, by omega, by go_num, by rw [HE.out]; exact hown8, hbel8⟩
            case measure => simp [intOf]; omega
          · obtain rfl : k = x.tabs.length := by omega
            rw [List.take_length] at hown
            have HO := Lib.hid hown
            have HBL := Lib.hid hbel
            obtain ⟨a2, c2, rfl, -⟩ := hown.shape
            clear hown hbel hlt
            go_wp2_with fail
            go_ret
            refine ⟨_, rfl, ?_, HBW.out⟩
            rw [HND.out]
            simpa using HO.out.fromBase (Nat.le_succ _)
end Go.Proofs.YtkblpaabknjckaaGreatDoor

namespace Go.Proofs.YtkblpaabknjckaaGreatDoor
set_option linter.unusedVariables false
open Go.RowKit

/-! ### as0 read: the numbers fit their kinds -/
/-! ### of at most 2^24 bytes -/
structure SxFine (x : SigX) : Prop where
  nm : x.d.name.length ≤ 16777216
  un : x.d.unit.length ≤ 16777216
  rn : x.rs.length ≤ 262144
  rt : ∀ r ∈ x.rs, r.length ≤ 16777216
structure MsgFine (m : MsgD) : Prop where
  nm : m.name.length ≤ 16777216
  sn : m.sender.length ≤ 16777216
  sn' : m.sigs.length ≤ 262144
  sg : ∀ s ∈ m.sigs, SxFine s
structure TabFine (t : TabD) : Prop where
  sg : t.sig.length ≤ 16777216
  rn : t.rows.length ≤ 262144
  rw : ∀ r ∈ t.rows, r.2.length ≤ 16777216
structure DbFine (d : DbD) : Prop where
  tx : d.ver.text.length ≤ 16777216
  nn : d.sta.names.length ≤ 262144
  nm : ∀ r ∈ d.sta.names, r.length ≤ 16777216
  mn : d.msgs.length ≤ 262144
  ms : ∀ m ∈ d.msgs, MsgFine m
  tn : d.tabs.length ≤ 262144
  tb : ∀ t ∈ d.tabs, TabFine t
theorem DbFine.fit {d : DbD} (h : DbFine d) : DbFit d :=
  ⟨by have := h.nn; omega, by have := h.mn; omega, fun m hm => ⟨by have := (h.ms m hm).sn'; omega, fun s hs => by have := ((h.ms m hm).sg s hs).rn; omega⟩, by have := h.tn; omega, fun t ht => by have := (h.tb t ht).rn; omega⟩
theorem DbFine.ok {d : DbD} (h : DbFine d) (hw : DbWf d) : DbOK d :=
  ⟨by have := h.tx; omega, by have := h.nn; omega, fun r hr => by have := h.nm r hr; omega,
    fun m hm => ⟨(hw.ms m hm).id, (hw.ms m hm).sz, by have := (h.ms m hm).nm; omega, by have := (h.ms m hm).sn; omega, fun s hs =>
      ⟨⟨((hw.ms m hm).sg s hs).d.br, ((hw.ms m hm).sg s hs).d.st, ((hw.ms m hm).sg s hs).d.sz, ((hw.ms m hm).sg s hs).d.s1, ((hw.ms m hm).sg s hs).d.s2, ((hw.ms m hm).sg s hs).d.o1, ((hw.ms m hm).sg s hs).d.o2, ((hw.ms m hm).sg s hs).d.m1, ((hw.ms m hm).sg s hs).d.m2, ((hw.ms m hm).sg s hs).d.x1, ((hw.ms m hm).sg s hs).d.x2, by have := ((h.ms m hm).sg s hs).nm; omega, by have := ((h.ms m hm).sg s hs).un; omega, ((hw.ms m hm).sg s hs).d.ro⟩, by have := ((h.ms m hm).sg s hs).rn; omega, ((hw.ms m hm).sg s hs).w⟩⟩,
    fun t ht => ⟨(hw.tb t ht).id, by have := (h.tb t ht).sg; omega, fun r hr => ⟨((hw.tb t ht).rw r hr).1, by have := (h.tb t ht).rw r hr; omega⟩⟩⟩

theorem tk_pos {l n : Int} (h : 0 < tkI l n) : n ≤ l ∧ tkI l n = l - n - 64 := by
  unfold tkI at *
  split at h <;> omega
theorem tk_bd {l n : Int} (hl : -64 ≤ l ∧ l ≤ 16777216) (hn : 0 ≤ n) : -64 ≤ tkI l n ∧ tkI l n ≤ 16777216 := by
  unfold tkI
  split <;> omega
theorem take_all {α : Type} {P : α → Prop} {l : List α} {k : Nat} (h : ∀ r ∈ l.take k, P r) (hk : k < l.length) (hp : P l[k]) : ∀ r ∈ l.take (k + 1), P r := by
  rw [List.take_succ_eq_append_getElem hk]
  intro r hr
  rcases List.mem_append.1 hr with hr | hr
  · exact h r hr
  · rw [List.mem_singleton.1 hr]; exact hp
theorem SlRd.max {α : Type} {rd : World → α → List Value → Prop} {size : Nat} {a : Option Addr} {cap : Nat} {xs : List α} {w : World} (h : SlRd w rd size a cap xs) : xs.length ≤ 9223372036854775807 := by
  obtain ⟨rows, h1, h2⟩ := h
  have := h1.len.2.1
  have := h2.len
  omega
/-- the walk's state: the box, what is left -/
structure VasW (w : World) (C : Array Value) (L : Int) (wr : World) : Prop where
  bel : Below w.heap.size w wr
  box : Blk wr w.heap.size C
  left : Blk wr (w.heap.size + 1) #[.int .i64 L]
  bd : -64 ≤ L ∧ L ≤ 16777216
theorem VasW.take {w : World} {C : Array Value} {L : Int} {wr : World} (h : VasW w C L wr) {n : Int} (hn : 0 ≤ n) : VasW w C (tkI L n) (wr.setCell ⟨w.heap.size + 1, 0, none⟩ (.int .i64 (tkI L n))) :=
  ⟨below_set h.bel (Nat.le_succ _) 0 _, h.box.other (a := ⟨w.heap.size + 1, 0, none⟩) (show w.heap.size + 1 ≠ w.heap.size by omega) _, h.left.put 0 (.int .i64 (tkI L n)), tk_bd h.bd hn⟩
theorem VasW.alloc {w : World} {C : Array Value} {L : Int} {wr : World} (h : VasW w C L wr) (o : Obj) : VasW w C L (wr.alloc o) :=
  ⟨h.bel.alloc h.bel.size o, h.box.alloc o, h.left.alloc o, h.bd⟩
theorem VasW.lt {w : World} {C : Array Value} {L : Int} {wr : World} (h : VasW w C L wr) : w.heap.size + 1 < wr.heap.size := h.left.lt

def VasR (x : DbD) (w : World) (e : Ending) (w' : World) : Prop := Below w.heap.size w w' ∧ (e = .returned (.bool true) ∨ e = .returned (.bool false) ∧ DbFine x)
set_option maxRecDepth 100000 in
set_option maxHeartbeats 16000000 in
theorem vast_any (x : DbD) (hw : DbWf x) (w : World) (cs : Array Value) (hrd : rdDb w x cs.toList) :
    Calls Tryz.prog 12 #[.agg cs] w fun e w' => VasR x w e w' := by
  obtain ⟨a, cap, b, cb, c, cc, ecs, hs, hm, ht⟩ := hrd
  obtain rfl : cs = x.cells (.slice a x.sta.names.length cap) (.slice b x.msgs.length cb) (.slice c x.tabs.length cc) := Array.toList_inj.1 ecs
  clear ecs
  have HS := Lib.hid hs
  have HM := Lib.hid hm
  have HTB := Lib.hid ht
  have HW := Lib.hid hw
  have hvt := hw.tx
  have hls := hs.len
  have hml := hm.max
  have htl := ht.max
  have e0 := DbD.cells_size x (.slice a x.sta.names.length cap) (.slice b x.msgs.length cb) (.slice c x.tabs.length cc)
  have HC := Lib.hid (show x.cells (.slice a x.sta.names.length cap) (.slice b x.msgs.length cb) (.slice c x.tabs.length cc) = #[.bool x.has, .int .i64 x.ver.line, .int .i64 x.ver.col, .string ⟨x.ver.text.toArray⟩, .int .i64 x.sta.line, .int .i64 x.sta.col, .slice a x.sta.names.length cap, .slice b x.msgs.length cb, .slice c x.tabs.length cc] from rfl)
  clear hs hm ht hw
  generalize x.cells (.slice a x.sta.names.length cap) (.slice b x.msgs.length cb) (.slice c x.tabs.length cc) = C at *
  have g3 : ∀ h, C[3]'h = .string ⟨x.ver.text.toArray⟩ := by rw [HC.out]; exact fun _ => rfl
  obtain ⟨zb, zl, -, hbz⟩ := box2 w C #[.int .i64 16777216] 38 3
  have hv0 : VasW w C 16777216 ((w.alloc (.cells C 38)).alloc (.cells #[.int .i64 16777216] 3)) := ⟨hbz, zb, zl, by decide⟩
  have HV1 := Lib.hid (hv0.take (n := (x.ver.text.length : Nat)) (by omega))
  have cT := fun (L n : Int) (hn : 0 ≤ n ∧ n ≤ 9223372036854775807) (W : World) (h : VasW w C L W) => take_any (w.heap.size + 1) L n ⟨by have := h.bd; omega, by have := h.bd; omega⟩ hn W h.left
  have ct0 := cT 16777216 (x.ver.text.length : Nat) (by omega) _ hv0
  have HP1 := Lib.hid (show 0 < tkI 16777216 (x.ver.text.length : Nat) → x.ver.text.length ≤ 16777216 from fun h => by have := (tk_pos h).1; omega)
  clear hbz zb zl hv0
  generalize tkI 16777216 (x.ver.text.length : Nat) = L1 at *
  go_enter Tryz.func12, Tryz.ntmps12
  go_wp2_with fail
  with_reducible refine ct0.mono ?_
  rintro e w1 ⟨rfl, hw1⟩
  have HV2 : Hid (VasW w C L1 w1) := Lib.hid (by rw [hw1]; exact HV1.out)
  clear hw1 HV1 ct0 g3
  go_wp2_with fail
  go_loopw [4] (fun i wr => ∃ (k : Nat) (L : Int), k ≤ x.sta.names.length ∧ i = .int .i64 (k : Nat) ∧ VasW w C L wr ∧ (0 < L → x.ver.text.length ≤ 16777216 ∧ L + 64 * k ≤ 16777216 ∧ ∀ r ∈ x.sta.names.take k, r.length ≤ 16777216)) (fun i _ => x.sta.names.length - (intOf i).toNat)
  case atStart => exact ⟨0, L1, Nat.zero_le _, rfl, HV2.out, fun h => ⟨HP1.out h, by have := HV2.out.bd; omega, by simp⟩⟩
  case round =>
    clear HV2 HP1
    obtain ⟨k, L, hk, rfl, hv, hp⟩ := hrel
    have B1 := hv.box
    rw [HC.out] at B1
    have f6 := B1.cell 6 _ rfl
    have f7 := B1.cell 7 _ rfl
    have f0 := hv.left.cell 0 _ rfl
    clear B1
    by_cases hlt : (k : Int) < x.sta.names.length
    by_cases hL : (0 : Int) < L
    · have hlt' : k < x.sta.names.length := by omega
      obtain ⟨bb, oo, rfl, hb, hc0⟩ := SlX.at (HS.out.keep hv.bel (Nat.le_refl _)) hlt'
      have hok := HW.out.nm _ (List.getElem_mem hlt')
      have HTK := Lib.hid (fun h1 h2 => take_all (P := fun r : List UInt8 => r.length ≤ 16777216) h1 hlt' h2)
      generalize x.sta.names[k] = y at *
      have ct := cT L (y.length : Nat) (by omega) wr hv
      have HV := Lib.hid (hv.take (n := (y.length : Nat)) (by omega))
      have HPN := Lib.hid (show 0 < tkI L (y.length : Nat) → x.ver.text.length ≤ 16777216 ∧ tkI L (y.length : Nat) + 64 * ((k + 1 : Nat) : Int) ≤ 16777216 ∧ ∀ r ∈ x.sta.names.take (k + 1), r.length ≤ 16777216 from fun h => by
        obtain ⟨h1, h2⟩ := tk_pos h
        obtain ⟨h3, h4, h5⟩ := hp hL
        exact ⟨h3, by omega, HTK.out h5 (by have := hv.bd; omega)⟩)
      clear hv hp HTK f7
      generalize tkI L (y.length : Nat) = L2 at *
      go_wp2_with fail
      with_reducible refine ct.mono ?_
      rintro e w3 ⟨rfl, hw3⟩
      rw [← hw3] at HV
      clear hw3 ct
      go_wp2_with fail
      go_roundw
      case rel => exact ⟨k + 1, L2, by omega, by go_num, HV.out, HPN.out⟩
      case measure => simp [intOf]; omega
    all_goals
      have HR : Hid (VasW w C L wr ∧ (0 < L → x.ver.text.length ≤ 16777216 ∧ x.sta.names.length ≤ 262144 ∧ (∀ r ∈ x.sta.names, r.length ≤ 16777216))) := Lib.hid (by
        refine ⟨hv, fun h => ?_⟩
        first
          | exact absurd h hL
          | (obtain ⟨h1, h2, h3⟩ := hp h
             have e : k = x.sta.names.length := by omega
             rw [e, List.take_length] at h3
             exact ⟨h1, by omega, h3⟩))
      clear hv hp
      go_wp2_with fail
      clear f6 f7 f0
      go_loopw [5] (fun i wr => ∃ (k : Nat) (L : Int), k ≤ x.msgs.length ∧ i = .int .i64 (k : Nat) ∧ VasW w C L wr ∧ (0 < L → (x.ver.text.length ≤ 16777216 ∧ x.sta.names.length ≤ 262144 ∧ (∀ r ∈ x.sta.names, r.length ≤ 16777216)) ∧ L + 64 * k ≤ 16777216 ∧ ∀ r ∈ x.msgs.take k, MsgFine r)) (fun i _ => x.msgs.length - (intOf i).toNat)
      case atStart => exact ⟨0, L, Nat.zero_le _, rfl, HR.out.1, fun h => ⟨HR.out.2 h, by have := HR.out.1.bd; omega, by simp⟩⟩
      case round =>
        clear HR
        obtain ⟨k, L, hk, rfl, hv, hp⟩ := hrel
        have B1 := hv.box
        rw [HC.out] at B1
        have f7 := B1.cell 7 _ rfl
        have f8 := B1.cell 8 _ rfl
        have f0 := hv.left.cell 0 _ rfl
        clear B1
        by_cases hlt : (k : Int) < x.msgs.length
        by_cases hL : (0 : Int) < L
        · have hlt' : k < x.msgs.length := by omega
          obtain ⟨bb, oo, rfl, hb, ds, hcl, hrd, hrg0⟩ := SlRd.at HM.out (by decide) hlt'
          have hrg : wr.rangeAt bb (oo + k * 8) ds := fun j u hu => cell_keep' (hrg0 j u hu) hv.bel
          clear hrg0
          obtain ⟨hd1, hd2⟩ := rdMsg_one hrd
          have hok := HW.out.ms _ (List.getElem_mem hlt')
          have HTK := Lib.hid (fun h1 h2 => take_all (P := MsgFine) h1 hlt' h2)
          generalize x.msgs[k] = y at *
          obtain ⟨ay, cy, eds, hsy⟩ := hrd
          have HSY := Lib.hid hsy
          have hsl := hsy.max
          have hnm := hok.nm
          have hsn := hok.sn
          have HOK := Lib.hid hok
          obtain ⟨DS, hDS⟩ : ∃ DS, DS = y.cells (.slice ay y.sigs.length cy) := ⟨_, rfl⟩
          rw [← hDS] at eds
          subst eds
          rw [Array.toArray_toList] at hd1 hd2
          have g4 : ∀ h, DS[4]'h = .string ⟨y.name.toArray⟩ := by rw [hDS]; exact fun _ => rfl
          have HDS := Lib.hid hDS
          clear hDS
          obtain ⟨nb, -, hbn⟩ := box1 wr DS 72
          have hszm : (Tryz.prog.info? 72).map (·.size) = some DS.toList.length := by rw [Array.length_toList, hd1]; exact msg_size
          have HV1 := Lib.hid (hv.alloc (.cells DS 72))
          have ct := cT L (y.name.length : Nat) (by omega) _ HV1.out
          have HV2 := Lib.hid (HV1.out.take (n := (y.name.length : Nat)) (by omega))
          have hM : w.heap.size + 1 < wr.heap.size := hv.lt
          have NB2 := Lib.hid (nb.other (a := ⟨w.heap.size + 1, 0, none⟩) (show w.heap.size + 1 ≠ wr.heap.size by omega) (.int .i64 (tkI L (y.name.length : Nat))))
          have HPA := Lib.hid (show 0 < tkI L (y.name.length : Nat) → (x.ver.text.length ≤ 16777216 ∧ x.sta.names.length ≤ 262144 ∧ (∀ r ∈ x.sta.names, r.length ≤ 16777216)) ∧ tkI L (y.name.length : Nat) + 64 * ((k + 1 : Nat) : Int) ≤ 16777216 ∧ (∀ r ∈ x.msgs.take k, MsgFine r) ∧ y.name.length ≤ 16777216 from fun h => by
            obtain ⟨h1, h2⟩ := tk_pos h
            obtain ⟨h3, h4, h5⟩ := hp hL
            exact ⟨h3, by omega, h5, by have := hv.bd; omega⟩)
          clear hv hp hsy hok f8 hbn nb
          generalize tkI L (y.name.length : Nat) = L2 at *
          go_wp2_with (first | (refine wpList_load_mid rfl 72 (.tmp 52) rfl bb (oo + k * 8) rfl DS.toList _ hrg Tryz.underlying72 rfl hszm ?_; rw [Array.toArray_toList]) | (refine wpList_newS (Z := zeroMsgD) (cs := DS) 72 (.tmp 6) (.tmp 53) (by rw [hd1]; exact msg_zero) (by rw [hd1]; rfl) hd2 ?_))
          with_reducible refine ct.mono ?_
          rintro e w3 ⟨rfl, hw3⟩
          rw [← hw3] at HV2 NB2
          clear hw3 ct HV1 hszm hrg f7 f0 g4
          have NB3 := NB2.out
          rw [HDS.out] at NB3
          have m6 := NB3.cell 6 (.string ⟨y.sender.toArray⟩) rfl
          have ct := cT L2 (y.sender.length : Nat) (by omega) w3 HV2.out
          have HV3 := Lib.hid (HV2.out.take (n := (y.sender.length : Nat)) (by omega))
          have NB4 := Lib.hid (NB2.out.other (a := ⟨w.heap.size + 1, 0, none⟩) (show w.heap.size + 1 ≠ wr.heap.size by omega) (.int .i64 (tkI L2 (y.sender.length : Nat))))
          have HPB := Lib.hid (show 0 < tkI L2 (y.sender.length : Nat) → ((x.ver.text.length ≤ 16777216 ∧ x.sta.names.length ≤ 262144 ∧ (∀ r ∈ x.sta.names, r.length ≤ 16777216)) ∧ (∀ r ∈ x.msgs.take k, MsgFine r) ∧ y.name.length ≤ 16777216 ∧ y.sender.length ≤ 16777216) ∧ tkI L2 (y.sender.length : Nat) + 64 * ((k + 1 : Nat) : Int) ≤ 16777216 from fun h => by
            obtain ⟨h1, h2⟩ := tk_pos h
            obtain ⟨h3, h4, h5, h6⟩ := HPA.out (by omega)
            exact ⟨⟨h3, h5, h6, by have := HV2.out.bd; omega⟩, by omega⟩)
          clear HPA NB3 HV2
          generalize tkI L2 (y.sender.length : Nat) = L3 at *
          go_wp2_with fail
          with_reducible refine ct.mono ?_
          rintro e w4 ⟨rfl, hw4⟩
          rw [← hw4] at HV3 NB4
          clear hw4 ct m6 NB2
          go_wp2_with fail
          have HBE := Lib.hid HSY.out
          generalize wr.heap.size = M at *
          go_loopw [7] (fun i wi => ∃ (j : Nat) (L : Int), j ≤ y.sigs.length ∧ i = .int .i64 (j : Nat) ∧ VasW w C L wi ∧ Blk wi M DS ∧ (0 < L → ((x.ver.text.length ≤ 16777216 ∧ x.sta.names.length ≤ 262144 ∧ (∀ r ∈ x.sta.names, r.length ≤ 16777216)) ∧ (∀ r ∈ x.msgs.take k, MsgFine r) ∧ y.name.length ≤ 16777216 ∧ y.sender.length ≤ 16777216) ∧ L + 64 * ((k + 1 : Nat) : Int) ≤ 16777216 ∧ L + 64 * (j : Int) ≤ 16777216 ∧ ∀ r ∈ y.sigs.take j, SxFine r)) (fun i _ => y.sigs.length - (intOf i).toNat)
          case atStart => exact ⟨0, L3, Nat.zero_le _, rfl, HV3.out, NB4.out, fun h => ⟨(HPB.out h).1, (HPB.out h).2, by have := HV3.out.bd; omega, by simp⟩⟩
          case round =>
            clear HV3 NB4 HPB
            obtain ⟨j, L, hj, rfl, hv, nb, hp⟩ := hrel
            have NB := nb
            rw [HDS.out] at NB
            have f7 := NB.cell 7 (.slice ay y.sigs.length cy) rfl
            have f0 := hv.left.cell 0 _ rfl
            clear NB
            by_cases hlj : (j : Int) < y.sigs.length
            by_cases hLj : (0 : Int) < L
            · have hlj' : j < y.sigs.length := by omega
              obtain ⟨b2, o2, rfl, hb2, ds2, hcl2, hrd2, hrg0⟩ := SlRd.at HSY.out (by decide) hlj'
              have hrg2 : wr.rangeAt b2 (o2 + j * 19) ds2 := fun j u hu => cell_keep' (hrg0 j u hu) hv.bel
              have hok2 := HOK.out.sg _ (List.getElem_mem hlj')
              have HTK2 := Lib.hid (fun h1 h2 => take_all (P := SxFine) h1 hlj' h2)
              clear hrg0
              generalize y.sigs[j] = s at *
              obtain ⟨a3, c3, eds2, hs3⟩ := hrd2
              have HS3 := Lib.hid hs3
              have hrl := hs3.len
              have hnm2 := hok2.d.nm
              have hun2 := hok2.d.un
              have HW3 := Lib.hid hok2.w
              obtain ⟨DG, hDG⟩ : ∃ DG, DG = s.d.cells (.slice a3 s.rs.length c3) := ⟨_, rfl⟩
              have hG1 : DG.size = 19 := by rw [hDG]; rfl
              have hG2 : DG.all (·.oneCell') = true := by rw [hDG]; exact SigD.cells_one _ _ _ _
              rw [← hDG] at eds2
              subst eds2
              have g2 : ∀ h, DG[2]'h = .string ⟨s.d.name.toArray⟩ := by rw [hDG]; exact fun _ => rfl
              have HDG := Lib.hid hDG
              obtain ⟨gb, -, hbg⟩ := box1 wr DG 89
              have hszs : (Tryz.prog.info? 89).map (·.size) = some DG.toList.length := by rw [Array.length_toList, hG1]; exact sig_size
              have HV1 := Lib.hid (hv.alloc (.cells DG 89))
              have NB1 := nb.alloc (.cells DG 89)
              unfold maxLen at hnm2 hun2
              have ct := cT L (s.d.name.length : Nat) (by omega) _ HV1.out
              have HV2 := Lib.hid (HV1.out.take (n := (s.d.name.length : Nat)) (by omega))
              have hG : w.heap.size + 1 < wr.heap.size := hv.lt
              have NB2 := Lib.hid (NB1.other (a := ⟨w.heap.size + 1, 0, none⟩) (show w.heap.size + 1 ≠ M by omega) (.int .i64 (tkI L (s.d.name.length : Nat))))
              have GB2 := Lib.hid (gb.other (a := ⟨w.heap.size + 1, 0, none⟩) (show w.heap.size + 1 ≠ wr.heap.size by omega) (.int .i64 (tkI L (s.d.name.length : Nat))))
              have HPC := Lib.hid (show 0 < tkI L (s.d.name.length : Nat) → ((x.ver.text.length ≤ 16777216 ∧ x.sta.names.length ≤ 262144 ∧ (∀ r ∈ x.sta.names, r.length ≤ 16777216)) ∧ (∀ r ∈ x.msgs.take k, MsgFine r) ∧ y.name.length ≤ 16777216 ∧ y.sender.length ≤ 16777216) ∧ tkI L (s.d.name.length : Nat) + 64 * ((k + 1 : Nat) : Int) ≤ 16777216 ∧ tkI L (s.d.name.length : Nat) + 64 * ((j + 1 : Nat) : Int) ≤ 16777216 ∧ (∀ r ∈ y.sigs.take j, SxFine r) ∧ s.d.name.length ≤ 16777216 from fun h => by
                obtain ⟨h1, h2⟩ := tk_pos h
                obtain ⟨h3, h4, h5, h6⟩ := hp hLj
                exact ⟨h3, by omega, by omega, h6, by have := hv.bd; omega⟩)
              clear hv hp hs3 hok2 hbg gb nb NB1 hDG
              generalize tkI L (s.d.name.length : Nat) = L2 at *
              go_wp2_with (first | (refine wpList_load_mid rfl 89 (.tmp 76) rfl b2 (o2 + j * 19) rfl DG.toList _ hrg2 Tryz.underlying89 rfl hszs ?_; rw [Array.toArray_toList]) | (refine wpList_newS (Z := zeroSig) (cs := DG) 89 (.tmp 8) (.tmp 77) (by rw [hG1]; exact sig_zero) (by rw [hG1]; rfl) hG2 ?_))
              with_reducible refine ct.mono ?_
              rintro e w5 ⟨rfl, hw5⟩
              rw [← hw5] at HV2 NB2 GB2
              clear hw5 ct HV1 hszs hrg2 f7 f0 g2
              have GB3 := GB2.out
              rw [HDG.out] at GB3
              have m17 := GB3.cell 17 (.string ⟨s.d.unit.toArray⟩) rfl
              have ct := cT L2 (s.d.unit.length : Nat) (by omega) w5 HV2.out
              have HV3 := Lib.hid (HV2.out.take (n := (s.d.unit.length : Nat)) (by omega))
              have NB4 := Lib.hid (NB2.out.other (a := ⟨w.heap.size + 1, 0, none⟩) (show w.heap.size + 1 ≠ M by omega) (.int .i64 (tkI L2 (s.d.unit.length : Nat))))
              have GB4 := Lib.hid (GB2.out.other (a := ⟨w.heap.size + 1, 0, none⟩) (show w.heap.size + 1 ≠ wr.heap.size by omega) (.int .i64 (tkI L2 (s.d.unit.length : Nat))))
              have HPD := Lib.hid (show 0 < tkI L2 (s.d.unit.length : Nat) → (((x.ver.text.length ≤ 16777216 ∧ x.sta.names.length ≤ 262144 ∧ (∀ r ∈ x.sta.names, r.length ≤ 16777216)) ∧ (∀ r ∈ x.msgs.take k, MsgFine r) ∧ y.name.length ≤ 16777216 ∧ y.sender.length ≤ 16777216) ∧ (∀ r ∈ y.sigs.take j, SxFine r) ∧ s.d.name.length ≤ 16777216 ∧ s.d.unit.length ≤ 16777216) ∧ tkI L2 (s.d.unit.length : Nat) + 64 * ((k + 1 : Nat) : Int) ≤ 16777216 ∧ tkI L2 (s.d.unit.length : Nat) + 64 * ((j + 1 : Nat) : Int) ≤ 16777216 from fun h => by
                obtain ⟨h1, h2⟩ := tk_pos h
                obtain ⟨h3, h4, h5, h6, h7⟩ := HPC.out (by omega)
                exact ⟨⟨h3, h6, h7, by have := HV2.out.bd; omega⟩, by omega, by omega⟩)
              clear HPC GB3 HV2
              generalize tkI L2 (s.d.unit.length : Nat) = L3 at *
              go_wp2_with fail
              with_reducible refine ct.mono ?_
              rintro e w6 ⟨rfl, hw6⟩
              rw [← hw6] at HV3 NB4 GB4
              clear hw6 ct m17 NB2 GB2
              go_wp2_with fail
              generalize wr.heap.size = G at *
              go_loopw [9] (fun i wi => ∃ (q : Nat) (L : Int), q ≤ s.rs.length ∧ i = .int .i64 (q : Nat) ∧ VasW w C L wi ∧ Blk wi M DS ∧ Blk wi G DG ∧ (0 < L → (((x.ver.text.length ≤ 16777216 ∧ x.sta.names.length ≤ 262144 ∧ (∀ r ∈ x.sta.names, r.length ≤ 16777216)) ∧ (∀ r ∈ x.msgs.take k, MsgFine r) ∧ y.name.length ≤ 16777216 ∧ y.sender.length ≤ 16777216) ∧ (∀ r ∈ y.sigs.take j, SxFine r) ∧ s.d.name.length ≤ 16777216 ∧ s.d.unit.length ≤ 16777216) ∧ L + 64 * ((k + 1 : Nat) : Int) ≤ 16777216 ∧ L + 64 * ((j + 1 : Nat) : Int) ≤ 16777216 ∧ L + 64 * (q : Int) ≤ 16777216 ∧ ∀ r ∈ s.rs.take q, r.length ≤ 16777216)) (fun i _ => s.rs.length - (intOf i).toNat)
              case atStart => exact ⟨0, L3, Nat.zero_le _, rfl, HV3.out, NB4.out, GB4.out, fun h => ⟨(HPD.out h).1, (HPD.out h).2.1, (HPD.out h).2.2, by have := HV3.out.bd; omega, by simp⟩⟩
              case round =>
                clear HV3 NB4 GB4 HPD
                obtain ⟨q, L, hq, rfl, hv, nb, gb, hp⟩ := hrel
                have GB := gb
                rw [HDG.out] at GB
                have f18 := GB.cell 18 (.slice a3 s.rs.length c3) rfl
                have f0 := hv.left.cell 0 _ rfl
                clear GB
                by_cases hlq : (q : Int) < s.rs.length
                by_cases hLq : (0 : Int) < L
                · have hlq' : q < s.rs.length := by omega
                  obtain ⟨b4, o4, rfl, hb4, hc4⟩ := SlX.at (HS3.out.keep hv.bel (Nat.le_refl _)) hlq'
                  have hok4 := HW3.out _ (List.getElem_mem hlq')
                  have HTK4 := Lib.hid (fun h1 h2 => take_all (P := fun r : List UInt8 => r.length ≤ 16777216) h1 hlq' h2)
                  generalize s.rs[q] = z at *
                  have ct := cT L (z.length : Nat) (by omega) wr hv
                  have HV := Lib.hid (hv.take (n := (z.length : Nat)) (by omega))
                  have NB5 := Lib.hid (nb.other (a := ⟨w.heap.size + 1, 0, none⟩) (show w.heap.size + 1 ≠ M by omega) (.int .i64 (tkI L (z.length : Nat))))
                  have GB5 := Lib.hid (gb.other (a := ⟨w.heap.size + 1, 0, none⟩) (show w.heap.size + 1 ≠ G by omega) (.int .i64 (tkI L (z.length : Nat))))
                  have HPN := Lib.hid (show 0 < tkI L (z.length : Nat) → (((x.ver.text.length ≤ 16777216 ∧ x.sta.names.length ≤ 262144 ∧ (∀ r ∈ x.sta.names, r.length ≤ 16777216)) ∧ (∀ r ∈ x.msgs.take k, MsgFine r) ∧ y.name.length ≤ 16777216 ∧ y.sender.length ≤ 16777216) ∧ (∀ r ∈ y.sigs.take j, SxFine r) ∧ s.d.name.length ≤ 16777216 ∧ s.d.unit.length ≤ 16777216) ∧ tkI L (z.length : Nat) + 64 * ((k + 1 : Nat) : Int) ≤ 16777216 ∧ tkI L (z.length : Nat) + 64 * ((j + 1 : Nat) : Int) ≤ 16777216 ∧ tkI L (z.length : Nat) + 64 * ((q + 1 : Nat) : Int) ≤ 16777216 ∧ ∀ r ∈ s.rs.take (q + 1), r.length ≤ 16777216 from fun h => by
                    obtain ⟨h1, h2⟩ := tk_pos h
                    obtain ⟨h3, h4, h5, h6, h7⟩ := hp hLq
                    exact ⟨h3, by omega, by omega, by omega, HTK4.out h7 (by have := hv.bd; omega)⟩)
                  clear hv hp nb gb HTK4
                  generalize tkI L (z.length : Nat) = L2 at *
                  go_wp2_with fail
                  with_reducible refine ct.mono ?_
                  rintro e w7 ⟨rfl, hw7⟩
                  rw [← hw7] at HV NB5 GB5
                  clear hw7 ct
                  go_wp2_with fail
                  go_roundw
                  case rel => exact ⟨q + 1, L2, by omega, by go_num, HV.out, NB5.out, GB5.out, HPN.out⟩
                  case measure => simp [intOf]; omega
                all_goals
                  have HR : Hid (VasW w C L wr ∧ Blk wr M DS ∧ (0 < L → ((x.ver.text.length ≤ 16777216 ∧ x.sta.names.length ≤ 262144 ∧ (∀ r ∈ x.sta.names, r.length ≤ 16777216)) ∧ (∀ r ∈ x.msgs.take k, MsgFine r) ∧ y.name.length ≤ 16777216 ∧ y.sender.length ≤ 16777216) ∧ L + 64 * ((k + 1 : Nat) : Int) ≤ 16777216 ∧ L + 64 * ((j + 1 : Nat) : Int) ≤ 16777216 ∧ ∀ r ∈ y.sigs.take (j + 1), SxFine r)) := Lib.hid (by
                    refine ⟨hv, nb, fun h => ?_⟩
                    first
                      | exact absurd h hLq
                      | (obtain ⟨⟨h1, h2, h3, h4⟩, h5, h6, h7, h8⟩ := hp h
                         have e : q = s.rs.length := by omega
                         rw [e, List.take_length] at h8
                         exact ⟨h1, h5, h6, HTK2.out h2 ⟨h3, h4, by omega, h8⟩⟩))
                  clear hv hp nb gb
                  go_wp2_with fail
                  go_roundw
                  case rel => exact ⟨j + 1, L, by omega, by go_num, HR.out.1, HR.out.2.1, HR.out.2.2⟩
                  case measure => simp [intOf]; omega
            all_goals
              have HR : Hid (VasW w C L wr ∧ (0 < L → (x.ver.text.length ≤ 16777216 ∧ x.sta.names.length ≤ 262144 ∧ (∀ r ∈ x.sta.names, r.length ≤ 16777216)) ∧ L + 64 * ((k + 1 : Nat) : Int) ≤ 16777216 ∧ ∀ r ∈ x.msgs.take (k + 1), MsgFine r)) := Lib.hid (by
                refine ⟨hv, fun h => ?_⟩
                first
                  | exact absurd h hLj
                  | (obtain ⟨⟨h1, h2, h3, h4⟩, h5, h6, h7⟩ := hp h
                     have e : j = y.sigs.length := by omega
                     rw [e, List.take_length] at h7
                     exact ⟨h1, h5, HTK.out h2 ⟨h3, h4, by omega, h7⟩⟩))
              clear hv hp nb
              go_wp2_with fail
              go_roundw
              case rel => exact ⟨k + 1, L, by omega, by go_num, HR.out.1, HR.out.2⟩
              case measure => simp [intOf]; omega
        all_goals
          have HR : Hid (VasW w C L wr ∧ (0 < L → x.ver.text.length ≤ 16777216 ∧ x.sta.names.length ≤ 262144 ∧ (∀ r ∈ x.sta.names, r.length ≤ 16777216) ∧ x.msgs.length ≤ 262144 ∧ (∀ m ∈ x.msgs, MsgFine m))) := Lib.hid (by
            refine ⟨hv, fun h => ?_⟩
            first
              | exact absurd h hL
              | (obtain ⟨⟨h1, h2, h3⟩, h4, h5⟩ := hp h
                 have e : k = x.msgs.length := by omega
                 rw [e, List.take_length] at h5
                 exact ⟨h1, h2, h3, by omega, h5⟩))
          clear hv hp
          go_wp2_with fail
          clear f7 f8 f0
          go_loopw [10] (fun i wr => ∃ (k : Nat) (L : Int), k ≤ x.tabs.length ∧ i = .int .i64 (k : Nat) ∧ VasW w C L wr ∧ (0 < L → (x.ver.text.length ≤ 16777216 ∧ x.sta.names.length ≤ 262144 ∧ (∀ r ∈ x.sta.names, r.length ≤ 16777216) ∧ x.msgs.length ≤ 262144 ∧ (∀ m ∈ x.msgs, MsgFine m)) ∧ L + 64 * k ≤ 16777216 ∧ ∀ r ∈ x.tabs.take k, TabFine r)) (fun i _ => x.tabs.length - (intOf i).toNat)
          case atStart => exact ⟨0, L, Nat.zero_le _, rfl, HR.out.1, fun h => ⟨HR.out.2 h, by have := HR.out.1.bd; omega, by simp⟩⟩
          case round =>
            clear HR
            obtain ⟨k, L, hk, rfl, hv, hp⟩ := hrel
            have B1 := hv.box
            rw [HC.out] at B1
            have f8 := B1.cell 8 _ rfl
            have f0 := hv.left.cell 0 _ rfl
            clear B1
            by_cases hlt : (k : Int) < x.tabs.length
            by_cases hL : (0 : Int) < L
            · have hlt' : k < x.tabs.length := by omega
              obtain ⟨bb, oo, rfl, hb, ds, hcl, hrd, hrg0⟩ := SlRd.at HTB.out (by decide) hlt'
              have hrg : wr.rangeAt bb (oo + k * 6) ds := fun j u hu => cell_keep' (hrg0 j u hu) hv.bel
              clear hrg0
              obtain ⟨hd1, hd2⟩ := rdTab_one hrd
              have hok := HW.out.tb _ (List.getElem_mem hlt')
              have HTK := Lib.hid (fun h1 h2 => take_all (P := TabFine) h1 hlt' h2)
              generalize x.tabs[k] = y at *
              obtain ⟨ay, cy, eds, hsy⟩ := hrd
              have HSY := Lib.hid hsy
              have hsl := hsy.len
              have hsg := hok.sg
              have HOK := Lib.hid hok
              obtain ⟨DS, hDS⟩ : ∃ DS, DS = y.cells (.slice ay y.rows.length cy) := ⟨_, rfl⟩
              rw [← hDS] at eds
              subst eds
              rw [Array.toArray_toList] at hd1 hd2
              have g4 : ∀ h, DS[4]'h = .string ⟨y.sig.toArray⟩ := by rw [hDS]; exact fun _ => rfl
              have HDS := Lib.hid hDS
              clear hDS
              obtain ⟨nb, -, hbn⟩ := box1 wr DS 76
              have hszm : (Tryz.prog.info? 76).map (·.size) = some DS.toList.length := by rw [Array.length_toList, hd1]; exact tab_size
              have HV1 := Lib.hid (hv.alloc (.cells DS 76))
              have ct := cT L (y.sig.length : Nat) (by omega) _ HV1.out
              have HV2 := Lib.hid (HV1.out.take (n := (y.sig.length : Nat)) (by omega))
              have hM : w.heap.size + 1 < wr.heap.size := hv.lt
              have NB2 := Lib.hid (nb.other (a := ⟨w.heap.size + 1, 0, none⟩) (show w.heap.size + 1 ≠ wr.heap.size by omega) (.int .i64 (tkI L (y.sig.length : Nat))))
              have HPA := Lib.hid (show 0 < tkI L (y.sig.length : Nat) → ((x.ver.text.length ≤ 16777216 ∧ x.sta.names.length ≤ 262144 ∧ (∀ r ∈ x.sta.names, r.length ≤ 16777216) ∧ x.msgs.length ≤ 262144 ∧ (∀ m ∈ x.msgs, MsgFine m)) ∧ (∀ r ∈ x.tabs.take k, TabFine r) ∧ y.sig.length ≤ 16777216) ∧ tkI L (y.sig.length : Nat) + 64 * ((k + 1 : Nat) : Int) ≤ 16777216 from fun h => by
                obtain ⟨h1, h2⟩ := tk_pos h
                obtain ⟨h3, h4, h5⟩ := hp hL
                exact ⟨⟨h3, h5, by have := hv.bd; omega⟩, by omega⟩)
              clear hv hp hsy hok hbn nb
              generalize tkI L (y.sig.length : Nat) = L2 at *
              go_wp2_with (first | (refine wpList_load_mid rfl 76 (.tmp 118) rfl bb (oo + k * 6) rfl DS.toList _ hrg Tryz.underlying76 rfl hszm ?_; rw [Array.toArray_toList]) | (refine wpList_newS (Z := zeroTabD) (cs := DS) 76 (.tmp 11) (.tmp 119) (by rw [hd1]; exact tab_zero) (by rw [hd1]; rfl) hd2 ?_))
              with_reducible refine ct.mono ?_
              rintro e w3 ⟨rfl, hw3⟩
              rw [← hw3] at HV2 NB2
              clear hw3 ct HV1 hszm hrg f8 f0 g4
              go_wp2_with fail
              generalize wr.heap.size = M at *
              go_loopw [12] (fun i wi => ∃ (j : Nat) (L : Int), j ≤ y.rows.length ∧ i = .int .i64 (j : Nat) ∧ VasW w C L wi ∧ Blk wi M DS ∧ (0 < L → ((x.ver.text.length ≤ 16777216 ∧ x.sta.names.length ≤ 262144 ∧ (∀ r ∈ x.sta.names, r.length ≤ 16777216) ∧ x.msgs.length ≤ 262144 ∧ (∀ m ∈ x.msgs, MsgFine m)) ∧ (∀ r ∈ x.tabs.take k, TabFine r) ∧ y.sig.length ≤ 16777216) ∧ L + 64 * ((k + 1 : Nat) : Int) ≤ 16777216 ∧ L + 64 * (j : Int) ≤ 16777216 ∧ ∀ r ∈ y.rows.take j, r.2.length ≤ 16777216)) (fun i _ => y.rows.length - (intOf i).toNat)
              case atStart => exact ⟨0, L2, Nat.zero_le _, rfl, HV2.out, NB2.out, fun h => ⟨(HPA.out h).1, (HPA.out h).2, by have := HV2.out.bd; omega, by simp⟩⟩
              case round =>
                clear HV2 NB2 HPA
                obtain ⟨j, L, hj, rfl, hv, nb, hp⟩ := hrel
                have NB := nb
                rw [HDS.out] at NB
                have f5 := NB.cell 5 (.slice ay y.rows.length cy) rfl
                have f0 := hv.left.cell 0 _ rfl
                clear NB
                by_cases hlj : (j : Int) < y.rows.length
                by_cases hLj : (0 : Int) < L
                · have hlj' : j < y.rows.length := by omega
                  obtain ⟨b2, o2, rfl, hb2, hc0, hc1⟩ := SlRw.at (HSY.out.keep hv.bel (Nat.le_refl _)) hlj'
                  have hok2 := (HOK.out.rw _ (List.getElem_mem hlj')).2
                  have HTK2 := Lib.hid (fun h1 h2 => take_all (P := fun r : Int × List UInt8 => r.2.length ≤ 16777216) h1 hlj' h2)
                  generalize y.rows[j] = z at *
                  obtain ⟨zv, zt⟩ := z
                  simp only at hc0 hc1 hok2 HTK2
                  have ct := cT L (zt.length : Nat) (by omega) wr hv
                  have HV := Lib.hid (hv.take (n := (zt.length : Nat)) (by omega))
                  have NB5 := Lib.hid (nb.other (a := ⟨w.heap.size + 1, 0, none⟩) (show w.heap.size + 1 ≠ M by omega) (.int .i64 (tkI L (zt.length : Nat))))
                  have HPN := Lib.hid (show 0 < tkI L (zt.length : Nat) → ((x.ver.text.length ≤ 16777216 ∧ x.sta.names.length ≤ 262144 ∧ (∀ r ∈ x.sta.names, r.length ≤ 16777216) ∧ x.msgs.length ≤ 262144 ∧ (∀ m ∈ x.msgs, MsgFine m)) ∧ (∀ r ∈ x.tabs.take k, TabFine r) ∧ y.sig.length ≤ 16777216) ∧ tkI L (zt.length : Nat) + 64 * ((k + 1 : Nat) : Int) ≤ 16777216 ∧ tkI L (zt.length : Nat) + 64 * ((j + 1 : Nat) : Int) ≤ 16777216 ∧ ∀ r ∈ y.rows.take (j + 1), r.2.length ≤ 16777216 from fun h => by
                    obtain ⟨h1, h2⟩ := tk_pos h
                    obtain ⟨h3, h4, h5, h6⟩ := hp hLj
                    exact ⟨h3, by omega, by omega, HTK2.out h6 (by have := hv.bd; show zt.length ≤ 16777216; omega)⟩)
                  clear hv hp nb HTK2
                  generalize tkI L (zt.length : Nat) = L2 at *
                  go_wp2_with fail
                  with_reducible refine ct.mono ?_
                  rintro e w7 ⟨rfl, hw7⟩
                  rw [← hw7] at HV NB5
                  clear hw7 ct
                  go_wp2_with fail
                  go_roundw
                  case rel => exact ⟨j + 1, L2, by omega, by go_num, HV.out, NB5.out, HPN.out⟩
                  case measure => simp [intOf]; omega
                all_goals
                  have HR : Hid (VasW w C L wr ∧ (0 < L → (x.ver.text.length ≤ 16777216 ∧ x.sta.names.length ≤ 262144 ∧ (∀ r ∈ x.sta.names, r.length ≤ 16777216) ∧ x.msgs.length ≤ 262144 ∧ (∀ m ∈ x.msgs, MsgFine m)) ∧ L + 64 * ((k + 1 : Nat) : Int) ≤ 16777216 ∧ ∀ r ∈ x.tabs.take (k + 1), TabFine r)) := Lib.hid (by
                    refine ⟨hv, fun h => ?_⟩
                    first
                      | exact absurd h hLj
                      | (obtain ⟨⟨h1, h2, h3⟩, h5, h6, h7⟩ := hp h
                         have e : j = y.rows.length := by omega
                         rw [e, List.take_length] at h7
                         exact ⟨h1, h5, HTK.out h2 ⟨h3, by omega, h7⟩⟩))
                  clear hv hp nb
                  go_wp2_with fail
                  go_roundw
                  case rel => exact ⟨k + 1, L, by omega, by go_num, HR.out.1, HR.out.2⟩
                  case measure => simp [intOf]; omega
            all_goals
              have HR : Hid (Below w.heap.size w wr ∧ (0 < L → DbFine x)) := Lib.hid (by
                refine ⟨hv.bel, fun h => ?_⟩
                first
                  | exact absurd h hL
                  | (obtain ⟨⟨h1, h2, h3, h4, h5⟩, h6, h7⟩ := hp h
                     have e : k = x.tabs.length := by omega
                     rw [e, List.take_length] at h7
                     exact ⟨h1, h2, h3, h4, h5, by omega, h7⟩))
              clear hv hp
              by_cases hLL : L ≤ 0
              all_goals
                first
                  | (exfalso; omega)
                  | (go_wp2_with fail
                     go_ret
                     first
                       | exact ⟨HR.out.1, .inl rfl⟩
                       | exact ⟨HR.out.1, .inr ⟨rfl, HR.out.2 (by omega)⟩⟩)
end Go.Proofs.YtkblpaabknjckaaGreatDoor

namespace Go.Proofs.YtkblpaabknjckaaGreatDoor
set_option linter.unusedVariables false
open Go.RowKit

theorem sx_fine_z {s : SigX} (h : SxFine s) : SxFine (zSig s) := ⟨h.nm, h.un, h.rn, h.rt⟩
theorem msg_fine_z {m : MsgD} (h : MsgFine m) : MsgFine (zMsg m) :=
  ⟨h.nm, h.sn, by show (m.sigs.map zSig).length ≤ _; rw [List.length_map]; exact h.sn', fun s hs => by
    obtain ⟨s', h1, rfl⟩ := List.mem_map.1 (show s ∈ m.sigs.map zSig from hs)
    exact sx_fine_z (h.sg s' h1)⟩
theorem tab_fine_z {t : TabD} (h : TabFine t) : TabFine (zTab t) := ⟨h.sg, h.rn, h.rw⟩
theorem bare_fine {d : DbD} (h : DbFine d) : DbFine (bareD d) := by
  refine ⟨?_, h.nn, h.nm, ?_, fun m hm => ?_, ?_, fun t ht => ?_⟩
  · unfold bareD
    cases d.has
    · exact Nat.zero_le _
    · exact h.tx
  · show (d.msgs.map zMsg).length ≤ _
    rw [List.length_map]
    exact h.mn
  · obtain ⟨m', h1, rfl⟩ := List.mem_map.1 (show m ∈ d.msgs.map zMsg from hm)
    exact msg_fine_z (h.ms m' h1)
  · show (d.tabs.map zTab).length ≤ _
    rw [List.length_map]
    exact h.tn
  · obtain ⟨t', h1, rfl⟩ := List.mem_map.1 (show t ∈ d.tabs.map zTab from ht)
    exact tab_fine_z (h.tb t' h1)
theorem sig_wf_z {s : SigX} (h : SigWf s.d) : SigWf (zSig s).d := by
  obtain ⟨⟩ := h
  constructor <;> assumption
theorem msg_wf_z {m : MsgD} (h : MsgWf m) : MsgWf (zMsg m) :=
  ⟨h.id, h.sz, h.nm, h.sn, fun s hs => by
    obtain ⟨s', h1, rfl⟩ := List.mem_map.1 (show s ∈ m.sigs.map zSig from hs)
    exact ⟨sig_wf_z (h.sg s' h1).d, (h.sg s' h1).w⟩⟩
theorem bare_wf {d : DbD} (h : DbWf d) : DbWf (bareD d) := by
  refine ⟨?_, h.nm, fun m hm => ?_, fun t ht => ?_⟩
  · unfold bareD
    cases d.has
    · exact Nat.zero_le _
    · exact h.tx
  · obtain ⟨m', h1, rfl⟩ := List.mem_map.1 (show m ∈ d.msgs.map zMsg from hm)
    exact msg_wf_z (h.ms m' h1)
  · obtain ⟨t', h1, rfl⟩ := List.mem_map.1 (show t ∈ d.tabs.map zTab from ht)
    exact ⟨(h.tb t' h1).id, (h.tb t' h1).sg, (h.tb t' h1).rw⟩
end Go.Proofs.YtkblpaabknjckaaGreatDoor

namespace Go.Proofs.YtkblpaabknjckaaGreatDoor
set_option linter.unusedVariables false
open Go.RowKit Go.Shelf

theorem fine_un {d : DbD} (h : DbFine (bareD d)) (hv : VerOK d) : DbFine d := by
  have hm := h.mn
  have ht := h.tn
  refine ⟨?_, h.nn, h.nm, by simpa [bareD] using hm, fun m hm => ?_, by simpa [bareD] using ht, fun t ht => ?_⟩
  · have h1 := h.tx
    unfold bareD at h1
    cases hh : d.has
    · rw [hv hh]; exact Nat.zero_le _
    · simpa [hh] using h1
  · have h1 := h.ms (zMsg m) (List.mem_map_of_mem hm)
    have h2 := h1.sn'
    refine ⟨h1.nm, h1.sn, by simpa [zMsg] using h2, fun s hs => ?_⟩
    have h3 := h1.sg (zSig s) (List.mem_map_of_mem hs)
    exact ⟨h3.nm, h3.un, h3.rn, h3.rt⟩
  · have h1 := h.tb (zTab t) (List.mem_map_of_mem ht)
    exact ⟨h1.sg, h1.rn, h1.rw⟩
theorem wf_un {d : DbD} (h : DbWf (bareD d)) (hv : VerOK d) : DbWf d := by
  refine ⟨?_, h.nm, fun m hm => ?_, fun t ht => ?_⟩
  · have h1 := h.tx
    unfold bareD at h1
    cases hh : d.has
    · rw [hv hh]; exact Nat.zero_le _
    · simpa [hh] using h1
  · have h1 := h.ms (zMsg m) (List.mem_map_of_mem hm)
    refine ⟨h1.id, h1.sz, h1.nm, h1.sn, fun s hs => ?_⟩
    have h3 := h1.sg (zSig s) (List.mem_map_of_mem hs)
    refine ⟨?_, h3.w⟩
    obtain ⟨⟩ := h3.d
    constructor <;> assumption
  · have h1 := h.tb (zTab t) (List.mem_map_of_mem ht)
    exact ⟨h1.id, h1.sg, h1.rw⟩
/-- what is written is read, and written again it is the same -/
theorem back_all {x : DbD} (hf : DbFine x) (hw : DbWf x) (h0 : filN x = 0) : ∃ d', DbBd d' 1048577 ∧ VerOK d' ∧ fileR (filT x) = .good (nodsD d') ∧ bareD d' = bareD x ∧ DbFine d' ∧ DbWf d' ∧ filN d' = 0 ∧ filT d' = filT x := by
  obtain ⟨h1, h2⟩ := fil_zero h0
  have h3 := (fil_good x h1 h2).2
  obtain ⟨d', g1, g2, g3, g4⟩ := back_file h1 (wf_64 hw) h2
  refine ⟨d', g1, g2, by rw [h3]; exact g3, g4, fine_un (by rw [g4]; exact bare_fine hf) g2, wf_un (by rw [g4]; exact bare_wf hw) g2, ?_, ?_⟩
  · rw [← filN_bare d', g4, filN_bare, h0]
  · rw [← filT_bare d', g4, filT_bare]
end Go.Proofs.YtkblpaabknjckaaGreatDoor

namespace Go.Proofs.YtkblpaabknjckaaGreatDoor
set_option linter.unusedVariables false
open Go.RowKit Go.Shelf

/-! ### the parts of a database, gathered again -/
theorem nod_ok {d : DbD} (h : DbFine d) (hw : DbWf d) : (∀ n ∈ nodL d, NodOK n) ∧ (∀ n ∈ nodL d, NodFit n) ∧ (nodL d).length ≤ 1000000 := by
  have ok := h.ok hw
  have fit := h.fit
  refine ⟨fun n hn => ?_, fun n hn => ?_, ?_⟩
  · unfold nodL at hn
    rcases List.mem_append.1 hn with hn | hn
    · cases hh : d.has
      · rw [hh] at hn; simp at hn
      · rw [hh] at hn
        obtain rfl : n = .ver d.ver := by simpa using hn
        exact ok.tx
    · rcases List.mem_cons.1 hn with rfl | hn
      · exact ⟨ok.nn, ok.nm⟩
      · rcases List.mem_append.1 hn with hn | hn
        · obtain ⟨m, hm, rfl⟩ := List.mem_map.1 hn
          exact ok.ms m hm
        · obtain ⟨t, ht, rfl⟩ := List.mem_map.1 hn
          exact ok.tb t ht
  · unfold nodL at hn
    rcases List.mem_append.1 hn with hn | hn
    · cases hh : d.has
      · rw [hh] at hn; simp at hn
      · rw [hh] at hn
        obtain rfl : n = .ver d.ver := by simpa using hn
        trivial
    · rcases List.mem_cons.1 hn with rfl | hn
      · exact fit.nn
      · rcases List.mem_append.1 hn with hn | hn
        · obtain ⟨m, hm, rfl⟩ := List.mem_map.1 hn
          exact fit.ms m hm
        · obtain ⟨t, ht, rfl⟩ := List.mem_map.1 hn
          exact fit.ts t ht
  · have h1 := h.mn
    have h2 := h.tn
    unfold nodL
    rw [List.length_append, List.length_cons, List.length_append, List.length_map, List.length_map]
    have : (if d.has then [NodeD.ver d.ver] else []).length ≤ 1 := by split <;> simp
    omega
end Go.Proofs.YtkblpaabknjckaaGreatDoor

namespace Go.Proofs.YtkblpaabknjckaaGreatDoor
set_option linter.unusedVariables false
open Go.RowKit

/-- a list of parts written: List and File of a document that is fine -/
theorem file_parts (y : DbD) (hf : DbFine y) (hw : DbWf y) : ∀ n, n = (nodL y).length → ∀ a cap W, SlRd W rdNode 1 a cap (nodL y) → TabsU W → PowTab W →
    Calls Tryz.prog 8 #[.slice a n cap] W fun e w' => e = .returned (.tuple #[.string ⟨(filT y).toArray⟩, if filN y = 0 then .nilIface else errV (filN y)]) ∧ Below W.heap.size W w' := fun n hn a cap W h1 h2 h3 => by
  rw [← pfil_nod]
  exact pfile_any (nodL y) (nod_ok hf hw).1 (nod_ok hf hw).2.1 (nod_ok hf hw).2.2 (fun h => by rw [filB_nod] at h; rw [filL_nod]; exact db_len (hf.ok hw) hf.fit h) n hn a cap W h1 h2 h3
end Go.Proofs.YtkblpaabknjckaaGreatDoor

namespace Go.Proofs.YtkblpaabknjckaaGreatDoor
set_option linter.unusedVariables false
set_option linter.unusedSimpArgs false
open Go.RowKit Go.Shelf

theorem num_filB (d : DbD) (w : World) : Calls Tryz.prog 14 #[if filN d = 0 then .nilIface else errV (filN d)] w fun e w' => e = .returned (.int .i64 (filN d : Nat)) ∧ w' = w := by
  cases h : dbB d
  · rw [(fil_bad d h).1]
    simpa [errV] using num_errno 4 (by omega) (by omega) w
  · by_cases hl : (dbT d).length ≤ 1048576
    · rw [(fil_good d h hl).1]
      simpa using num_nil w
    · rw [(fil_long d h hl).1]
      simpa [errV] using num_errno 5 (by omega) (by omega) w
theorem filN_cases (d : DbD) : filN d = 0 ∨ (filN d = 4 ∨ filN d = 5) ∧ filT d = [] := by
  cases h : dbB d
  · exact .inr ⟨.inl (fil_bad d h).1, (fil_bad d h).2⟩
  · by_cases hl : (dbT d).length ≤ 1048576
    · exact .inl (fil_good d h hl).1
    · exact .inr ⟨.inr (fil_long d h hl).1, (fil_long d h hl).2⟩
/-- a struct's load behind a test that is met -/
theorem yields_loadSG {P : Program} {ops : Array Oper} {S : World → Prop} {o : Oper} {a : Act} {k : Nat} {cs : Array Value} (hS : ∀ w, S w → Blk w k cs) (ty : TypeId) (x : Operand) {d : TypeDesc}
    (hu : P.underlying ty = some d) (hi : (P.info? ty).map (·.size) = some cs.size) (hw : Region.wanted o (yielded ops a.tmps) = true)
    (ho : o.op = .load ty x := by rfl) (hx : a.eval x = .pointer (some ⟨k, 0, none⟩) := by rfl) (hd : d.isRow = true := by rfl) : YieldsIf P ops S o (.agg cs) a := by
  refine Or.inl ⟨hw, fun w h => ?_⟩
  unfold execOp
  simp only [ho, hx, Instr.loadAt, Instr.sureAddr, Sem.run_bind, Sem.run_pure, Result.andThen_ok, run_loadS (hS w h) ty d hu hd hi]

set_option maxRecDepth 100000 in
set_option maxHeartbeats 16000000 in
theorem printback_any (x : DbD) (hw : DbWf x) (w : World) (cs : Array Value) (hrd : rdDb w x cs.toList) (hW : FileW w) :
    Calls Tryz.prog 4 #[.agg cs] w fun e w' => e = .returned (.bool true) ∧ Below w.heap.size w w' := by
  have hcs : cs.size = 9 := by obtain ⟨a, p, b, q, c, r, e, -⟩ := hrd; rw [Array.toList_inj.1 e]; rfl
  have HRD := Lib.hid (fun W (h : Below w.heap.size w W) => last_rdDb _ _ _ _ hrd h)
  have cV := fun W h => vast_any x hw W cs h
  have CL := Lib.hid (fun (hf : DbFine x) W h => nlist_any x hf.fit W cs h)
  have CP := Lib.hid (fun (hf : DbFine x) => file_parts x hf hw)
  have CB := Lib.hid (fun (hf : DbFine x) W h => bare_any x hf.fit W cs h)
  have CBA := Lib.hid (fun (hf : DbFine x) h0 => back_all hf hw h0)
  have CN := Lib.hid (num_filB x)
  have HWW := Lib.hid (fun W (h : Below w.heap.size w W) => FileW.keep hW h)
  have HCA := Lib.hid (filN_cases x)
  obtain ⟨zb, -, hbz⟩ := box1 w cs 38
  have hu := Tryz.underlying38
  have HB0 := Lib.hid hbz
  have ZB := Lib.hid zb
  have hW1 := HWW.out _ hbz
  have cW := works7_any _ hW1.tab hW1.pow
  clear hrd hw hW hbz hW1
  go_enter Tryz.func4, Tryz.ntmps4
  go_wp2_with fail
  with_reducible refine cW.mono ?_
  rintro e w0 ⟨rfl, hb⟩
  have zb := ZB.out.keep hb (Nat.le_refl _)
  have HBA := Lib.hid (bstep HB0.out hb (Nat.le_refl _))
  have ZBA := Lib.hid zb
  clear hb cW HB0 ZB
  go_wp2_with (refine wpList_loadS zb 38 (.tmp 1) hu (by rw [hcs]; exact db_size) ?_)
  with_reducible refine (cV _ (HRD.out _ HBA.out)).mono ?_
  rintro e w1 ⟨hb, hv⟩
  have zb := ZBA.out.keep hb (Nat.le_refl _)
  have HB1 := Lib.hid (bstep HBA.out hb (Nat.le_refl _))
  have ZB1 := Lib.hid zb
  clear hb cV ZBA HBA
  rcases hv with rfl | ⟨rfl, hf⟩
  · go_wp2_with fail
    go_ret
    exact ⟨rfl, HB1.out⟩
  have cL := CL.out hf
  have cP := CP.out hf
  have cB := CB.out hf
  have cBA := CBA.out hf
  obtain ⟨E, hE⟩ : ∃ E, E = (if filN x = 0 then Value.nilIface else errV (filN x)) := ⟨_, rfl⟩
  have cN := CN.out
  rw [← hE] at cP cN
  have HE := Lib.hid hE
  clear hf CL CP CB CN CBA hE
  go_wp2_with (refine wpList_loadS zb 38 (.tmp 1) hu (by rw [hcs]; exact db_size) ?_)
  with_reducible refine (cL _ (HRD.out _ HB1.out)).mono ?_
  rintro e w3 ⟨vl, rfl, hol, hb⟩
  have HB3 := Lib.hid (bstep HB1.out hb (Nat.le_refl _))
  have ZB3 := Lib.hid (ZB1.out.keep hb (Nat.le_refl _))
  obtain ⟨al, cl, rfl, hsl⟩ := hol.shape
  have HSL := Lib.hid (hsl.weak fun _ _ => fd_node)
  have hW3 := HWW.out _ HB3.out
  clear hb cL ZB1 hol hsl zb HB1
  have cP1 := cP _ rfl al cl w3 HSL.out hW3.tab hW3.pow
  clear cP HSL hW3
  generalize (nodL x).length = nl at *
  go_wp2_with fail
  with_reducible refine cP1.mono ?_
  rintro e w4 ⟨rfl, hb⟩
  have HB4 := Lib.hid (bstep HB3.out hb (Nat.le_refl _))
  have ZB4 := Lib.hid (ZB3.out.keep hb (Nat.le_refl _))
  clear hb cP1 ZB3 HB3
  rcases HCA.out with h0 | ⟨h0, hT⟩
  rotate_left
  · have hE := HE.out
    rw [if_neg (by omega)] at hE
    clear HCA HE cBA cB
    rw [hT]
    rcases h0 with h0 | h0
    · rw [h0, show ((4 : Nat) : Int) = 4 from rfl] at hE cN
      unfold errV at hE
      subst hE
      go_wp2_with fail
      with_reducible refine (cN _).mono ?_
      rintro e w5 ⟨rfl, rfl⟩
      go_wp2_with fail
      go_ret
      exact ⟨rfl, HB4.out⟩
    · rw [h0, show ((5 : Nat) : Int) = 5 from rfl] at hE cN
      unfold errV at hE
      subst hE
      go_wp2_with fail
      with_reducible refine (cN _).mono ?_
      rintro e w5 ⟨rfl, rfl⟩
      go_wp2_with fail
      with_reducible refine (cN _).mono ?_
      rintro e w5 ⟨rfl, rfl⟩
      go_wp2_with fail
      go_ret
      exact ⟨rfl, HB4.out⟩
  obtain ⟨d', g1, g2, g3, g4, g5, g6, g7, g8⟩ := cBA h0
  have hTl : (filT x).length ≤ 9223372036854775807 := by
    obtain ⟨k1, k2⟩ := fil_zero h0
    rw [(fil_good x k1 k2).2]
    omega
  have hE := HE.out
  rw [if_pos h0] at hE
  subst hE
  have cF := fun W h => file_any (filT x) hTl W h
  rw [g3] at cF
  obtain ⟨N, hN⟩ : ∃ N, N = (nodsD d').length := ⟨_, rfl⟩
  have HN := Lib.hid hN
  have cG := fun (W : World) (n : Nat) (hn : n = (nodsD d').length) a cap hsl => gather6_any d' g1 g2 n hn a cap W hsl
  have cP2 := fun n hn a cap W => file_parts d' g5 g6 n hn a cap W
  rw [if_pos g7, g8] at cP2
  have cB2 := fun W (cs : Array Value) h => bare_any d' g5.fit W cs h
  rw [g4] at cB2
  have CS := Lib.hid (fun (W : World) cs ds h1 h2 => sameDb_any (bareD x) W cs ds h1 h2)
  have CB2 := Lib.hid cB2
  have CB1 := Lib.hid cB
  have CP2 := Lib.hid cP2
  generalize filT x = TX at *
  clear HCA HE cBA cB cN g1 g2 g3 g4 g5 g6 g7 g8 h0 hN cB2 cP2 hTl
  have hW4 := HWW.out _ HB4.out
  go_wp2_with fail
  with_reducible refine (cF _ hW4).mono ?_
  rintro e w5 ⟨va, TA, rfl, hoa, hfa, hca, hb⟩
  obtain ⟨aa, ca, eva, -⟩ := hoa.shape
  rw [show TA.length = N by rw [HN.out, ← hfa, List.length_map]] at eva
  subst eva
  have HS := Lib.hid (sl_nodes6 hoa hfa)
  have HB5 := Lib.hid (bstep HB4.out hb (Nat.le_refl _))
  have ZB5 := Lib.hid (ZB4.out.keep hb (Nat.le_refl _))
  clear hb hoa hfa hca cF HB4 ZB4 hW4
  go_wp2_with fail
  with_reducible refine (cG _ _ HN.out _ _ HS.out).mono ?_
  rintro e w6 ⟨C, rfl, hC, hb⟩
  obtain ⟨hC9, hC1⟩ := fdDb_shape (b := 0) hC
  have hba := (Below.refl w6.heap.size w6).alloc (Nat.le_refl _) (.cells C 38)
  have hb2 := bstep hb hba (Nat.le_refl _)
  have HC := Lib.hid (fd_db (last_fdDb _ _ _ _ hC hba))
  have HK := Lib.hid (Blk.new w6 C 38)
  have HB6 := Lib.hid (bstep HB5.out hb2 (Nat.le_refl _))
  have ZB6 := Lib.hid (ZB5.out.keep hb2 (Nat.le_refl _))
  replace HS := Lib.hid (HS.out.keep last_rdNode hb2)
  clear hb hba hb2 hC cG HB5 ZB5
  go_upto_region 12 with (refine wpList_newS (Z := zeroDb) (cs := C) 38 (.tmp 6) (.tmp 43) (by rw [hC9]; exact db_zero) (by rw [hC9]; rfl) hC1 ?_)
  generalize w6.alloc (.cells C 38) = w7 at *
  generalize w6.heap.size = k6 at *
  clear hC1
  have hW7 := HWW.out _ HB6.out
  have cP3 := CP2.out N HN.out aa ca w7 HS.out hW7.tab hW7.pow
  clear HS CP2 hW7
  go_wp2_with fail
  with_reducible refine cP3.mono ?_
  rintro e w8 ⟨rfl, hb⟩
  have hb2 := bstep HB6.out hb (Nat.le_refl _)
  have zb := ZB6.out.keep hb (Nat.le_refl _)
  have hbk := HK.out.keep hb (Nat.le_refl _)
  have hF := last_rdDb _ _ _ _ HC.out hb
  have hX := HRD.out _ hb2
  have HB := Lib.hid hb2
  clear hb hb2 cP3 HB6 ZB6 HK HC HRD HWW
  go_upto_region 13 with fail
  have hdw : Below w8.heap.size w8 w8.drew := (Below.refl _ _).drew
  have hF1 := last_rdDb _ _ _ _ hF hdw
  refine wp_region_held_drew (S := fun (w' : World) => Blk w' k6 C ∧ Blk w' w.heap.size cs) (by kernel_rfl) ⟨hbk.keep hdw (Nat.le_refl _), zb.keep hdw (Nat.le_refl _)⟩ (fun hHeld => ?_)
  clear hbk zb hF
  refine hT 0 ?_
  try simp only [spt]
  refine hT 1 ?_
  try simp only [spt]
  refine hT 2 ?_
  try simp only [spt]
  refine hT 3 ?_
  try simp only [spt]
  refine hT 4 ?_
  try simp only [spt]
  refine hT 5 ?_
  try simp only [spt]
  refine hT 6 ?_
  try simp only [spt]
  refine held_take 7 (v := .agg C) rfl (by kernel_rfl) (by kernel_rfl) (by kernel_rfl) (fun _ _ _ h => h) (by assumption) (yields_loadSG (fun w h => h.1) 38 (.tmp 6) hu (by rw [hC9]; exact db_size) (by kernel_rfl)) ?_
  try simp only [spt]
  refine held_take 9 (v := .agg cs) rfl (by kernel_rfl) (by kernel_rfl) (by kernel_rfl) (fun _ _ _ h => h) (by assumption) (yields_loadSG (fun w h => h.2) 38 (.tmp 1) hu (by rw [hcs]; exact db_size) (by kernel_rfl)) ?_
  try simp only [spt]
  refine held_call 8 rfl (by kernel_rfl) (fun K hK => ?_)
  go_simp
  with_reducible refine (CB2.out _ _ hF1).mono ?_
  rintro e wq ⟨E1, rfl, hE1, hb⟩
  refine hK.out _ _ ⟨hHeld.1.keep hb (Nat.le_refl _), hHeld.2.keep hb (Nat.le_refl _)⟩ (fun hHeld => ?_)
  clear hK K
  try simp only [spt]
  replace HB := Lib.hid (bstep HB.out (hdw.trans hb) (Nat.le_refl _))
  replace hX := last_rdDb _ _ _ _ hX (hdw.trans hb)
  clear hb hF1 hdw
  refine held_call 10 rfl (by kernel_rfl) (fun K hK => ?_)
  go_simp
  with_reducible refine (CB1.out _ hX).mono ?_
  rintro e wq ⟨E2, rfl, hE2, hb⟩
  refine hK.out _ _ ⟨hHeld.1.keep hb (Nat.le_refl _), hHeld.2.keep hb (Nat.le_refl _)⟩ (fun hHeld => ?_)
  clear hK K
  try simp only [spt]
  replace HB := Lib.hid (bstep HB.out hb (Nat.le_refl _))
  have hE1x := last_fdDbN _ _ _ _ _ hE1 hb
  clear hb hX hE1
  refine held_call 11 rfl (by kernel_rfl) (fun K hK => ?_)
  go_simp
  with_reducible refine (CS.out _ _ _ (fd_db (fdDbN_fd hE1x)) (fd_db (fdDbN_fd hE2))).mono ?_
  rintro e wq ⟨rfl, hb⟩
  refine hK.out _ _ ⟨hHeld.1.keep hb (Nat.le_refl _), hHeld.2.keep hb (Nat.le_refl _)⟩ (fun hHeld => ?_)
  clear hK K
  try simp only [spt]
  replace HB := Lib.hid (bstep HB.out hb (Nat.le_refl _))
  clear hb
  refine hT 12 ?_
  try simp only [spt]
  refine hT 13 ?_
  try simp only [spt]
  refine hT 14 ?_
  try simp only [spt]
  refine hT 15 ?_
  try simp only [spt]
  refine hT 16 ?_
  try simp only [spt]
  refine hT 17 ?_
  try simp only [spt]
  refine hT 18 ?_
  try simp only [spt]
  refine wpAnyH_done (by kernel_rfl) ?_ _
  go_wp2_with fail
  go_ret
  exact ⟨rfl, HB.out⟩
end Go.Proofs.YtkblpaabknjckaaGreatDoor

namespace Go.Proofs.YtkblpaabknjckaaGreatDoor
set_option linter.unusedVariables false
open Go.RowKit Go.ChangeShapes

set_option maxRecDepth 100000 in
theorem flat_row : IsFlat Tryz.prog 93 2 enRw (fun x => In64 x.1 ∧ x.2.length ≤ maxLen) := by
  refine ⟨by kernel_rfl, enRw_len, ?_⟩
  intro H enc w base spare held fuel cs x h
  have h2 : Tryz.prog.cellsOf 2 = 1 := by kernel_rfl
  have h4 : Tryz.prog.cellsOf 9 = 1 := by kernel_rfl
  have h3 : Tryz.prog.cellsOf 93 = 2 := by kernel_rfl
  obtain ⟨y0, y1, n, rfl, hl, z0, z1⟩ := trod_struct2 Tryz.underlying93 h
  rw [h3] at hl
  match cs, hl with
  | [c0, c1], _ =>
    simp only [h2, h4, List.drop_zero, List.drop_succ_cons, List.take_succ_cons, List.take_zero] at z0 z1
    obtain ⟨l, e0, d0, w0⟩ := DataW.trod_int Tryz.underlying2 z0
    obtain ⟨s, e1, d1, w1⟩ := DataW.trod_string Tryz.underlying9 z1
    simp only [List.cons.injEq, and_true] at e0 e1
    subst e0 e1
    exact ⟨(l, s.data.toList), ⟨i64_bd w0, w1⟩, rfl⟩

theorem open_sx {H : Type} {enc : TypeId × Value → H} {w : World} {base : Nat} {held : Bool} {fuel : Nat} {cs : List Value} {x : DataW H × List MemPlace} (h : DataW.trod enc Tryz.prog w base (fun _ => true) held fuel 89 cs = some x) :
    ∃ y : SigX, rdSig w y cs ∧ cs.length = 19 ∧ SxWf y := by
  obtain ⟨d, rs, a, cap, z, rfl, hs, ok, wf, -, -⟩ := open_sig h
  exact ⟨⟨d, rs⟩, ⟨a, cap, rfl, hs⟩, rfl, ⟨wf, fun r hr => Nat.le_trans (ok r hr) (by decide)⟩⟩

set_option maxRecDepth 100000 in
set_option maxHeartbeats 1000000 in
theorem open_ver {H : Type} {enc : TypeId × Value → H} {w : World} {base : Nat} {held : Bool} {fuel : Nat} {cs : List Value} {x : DataW H × List MemPlace} (h : DataW.trod enc Tryz.prog w base (fun _ => true) held fuel 31 cs = some x) :
    ∃ y : VerD, cs = y.cells.toList ∧ y.text.length ≤ maxLen := by
  have k0 : Tryz.prog.cellsOf 29 = 2 := by kernel_rfl
  have k1 : Tryz.prog.cellsOf 9 = 1 := by kernel_rfl
  have kk : Tryz.prog.cellsOf 31 = 3 := by kernel_rfl
  obtain ⟨xs, n, -, rfl, hl, hlen, hf⟩ := DataW.trod_struct Tryz.underlying31 h
  rw [kk] at hl
  clear h
  match xs, hlen with
  | [y0, y1], _ =>
    match cs, hl with
    | [c0, c1, c2], _ =>
      have z0 := hf 0 _ rfl
      have z1 := hf 1 _ rfl
      clear hf
      simp only [List.getElem_toArray, List.getElem_cons_zero, List.getElem_cons_succ, k0, k1, List.drop_zero, List.drop_succ_cons, List.take_succ_cons, List.take_zero, List.getElem?_cons_zero, List.getElem?_cons_succ] at z0 z1
      obtain ⟨p1, p2, e0, d0, -, -⟩ := open_place z0
      obtain ⟨s, e1, d1, w1⟩ := DataW.trod_string Tryz.underlying9 z1
      simp only [List.cons.injEq, and_true] at e0 e1
      obtain ⟨rfl, rfl⟩ := e0
      subst e1
      exact ⟨⟨p1, p2, s.data.toList⟩, rfl, w1⟩

set_option maxRecDepth 100000 in
set_option maxHeartbeats 1000000 in
theorem open_sta {H : Type} {enc : TypeId × Value → H} {w : World} {base : Nat} {held : Bool} {fuel : Nat} {cs : List Value} {x : DataW H × List MemPlace} (h : DataW.trod enc Tryz.prog w base (fun _ => true) held fuel 34 cs = some x) :
    ∃ (y : StaD) (a : Option Addr) (cap : Nat), cs = (y.cells (.slice a y.names.length cap)).toList ∧ SlX w a cap y.names ∧ ∀ r ∈ y.names, r.length ≤ maxLen := by
  have k0 : Tryz.prog.cellsOf 29 = 2 := by kernel_rfl
  have k1 : Tryz.prog.cellsOf 32 = 1 := by kernel_rfl
  have kk : Tryz.prog.cellsOf 34 = 3 := by kernel_rfl
  obtain ⟨xs, n, -, rfl, hl, hlen, hf⟩ := DataW.trod_struct Tryz.underlying34 h
  rw [kk] at hl
  clear h
  match xs, hlen with
  | [y0, y1], _ =>
    match cs, hl with
    | [c0, c1, c2], _ =>
      have z0 := hf 0 _ rfl
      have z1 := hf 1 _ rfl
      clear hf
      simp only [List.getElem_toArray, List.getElem_cons_zero, List.getElem_cons_succ, k0, k1, List.drop_zero, List.drop_succ_cons, List.take_succ_cons, List.take_zero, List.getElem?_cons_zero, List.getElem?_cons_succ] at z0 z1
      obtain ⟨p1, p2, e0, d0, -, -⟩ := open_place z0
      obtain ⟨a1, cap1, l, e1, hs1, ok1, -⟩ := open_texts z1
      simp only [List.cons.injEq, and_true] at e0 e1
      obtain ⟨rfl, rfl⟩ := e0
      subst e1
      exact ⟨⟨p1, p2, l⟩, a1, cap1, rfl, hs1, ok1⟩

set_option maxRecDepth 100000 in
set_option maxHeartbeats 1000000 in
theorem open_msg {H : Type} {enc : TypeId × Value → H} {w : World} {base : Nat} {held : Bool} {fuel : Nat} {cs : List Value} {x : DataW H × List MemPlace} (h : DataW.trod enc Tryz.prog w base (fun _ => true) held fuel 72 cs = some x) :
    ∃ y : MsgD, rdMsg w y cs ∧ cs.length = 8 ∧ MsgWf y := by
  have k0 : Tryz.prog.cellsOf 29 = 2 := by kernel_rfl
  have k1 : Tryz.prog.cellsOf 69 = 1 := by kernel_rfl
  have k2 : Tryz.prog.cellsOf 4 = 1 := by kernel_rfl
  have k3 : Tryz.prog.cellsOf 9 = 1 := by kernel_rfl
  have k4 : Tryz.prog.cellsOf 3 = 1 := by kernel_rfl
  have k5 : Tryz.prog.cellsOf 70 = 1 := by kernel_rfl
  have kk : Tryz.prog.cellsOf 72 = 8 := by kernel_rfl
  obtain ⟨xs, n, -, rfl, hl, hlen, hf⟩ := DataW.trod_struct Tryz.underlying72 h
  rw [kk] at hl
  clear h
  match xs, hlen with
  | [y0, y1, y2, y3, y4, y5, y6], _ =>
    match cs, hl with
    | [c0, c1, c2, c3, c4, c5, c6, c7], _ =>
      have z0 := hf 0 _ rfl
      have z1 := hf 1 _ rfl
      have z2 := hf 2 _ rfl
      have z3 := hf 3 _ rfl
      have z4 := hf 4 _ rfl
      have z5 := hf 5 _ rfl
      have z6 := hf 6 _ rfl
      clear hf
      simp only [List.getElem_toArray, List.getElem_cons_zero, List.getElem_cons_succ, k0, k1, k2, k3, k4, k5, List.drop_zero, List.drop_succ_cons, List.take_succ_cons, List.take_zero, List.getElem?_cons_zero, List.getElem?_cons_succ] at z0 z1 z2 z3 z4 z5 z6
      obtain ⟨p1, p2, e0, d0, -, -⟩ := open_place z0
      obtain ⟨id, e1, d1, w1⟩ := DataW.trod_int Tryz.underlying69 z1
      obtain ⟨wd, e2, d2⟩ := DataW.trod_bool Tryz.underlying4 z2
      obtain ⟨nm, e3, d3, w3⟩ := DataW.trod_string Tryz.underlying9 z3
      obtain ⟨sz, e4, d4, w4⟩ := DataW.trod_int Tryz.underlying3 z4
      obtain ⟨sn, e5, d5, w5⟩ := DataW.trod_string Tryz.underlying9 z5
      obtain ⟨a6, cap6, l, e6, hs6, ok6, -⟩ := open_rd (rd := rdSig) (Q := fun s _ => SxWf s) Tryz.underlying70 (by kernel_rfl) (fun fuel cs x h => open_sx h) z6
      simp only [List.cons.injEq, and_true] at e0 e1 e2 e3 e4 e5 e6
      obtain ⟨rfl, rfl⟩ := e0
      subst e1
      subst e2
      subst e3
      subst e4
      subst e5
      subst e6
      have hb1 := u32_bd w1
      obtain ⟨id, rfl⟩ := Int.eq_ofNat_of_zero_le hb1.1
      exact ⟨⟨p1, p2, id, wd, nm.data.toList, sz, sn.data.toList, l⟩, ⟨a6, cap6, rfl, hs6⟩, rfl, ⟨by have := hb1.2; show id < 4294967296; omega, i64_bd w4, Nat.le_trans w3 (by decide), Nat.le_trans w5 (by decide), fun s hs => by obtain ⟨_, h⟩ := ok6 s hs; exact h⟩⟩

set_option maxRecDepth 100000 in
set_option maxHeartbeats 1000000 in
theorem open_tab {H : Type} {enc : TypeId × Value → H} {w : World} {base : Nat} {held : Bool} {fuel : Nat} {cs : List Value} {x : DataW H × List MemPlace} (h : DataW.trod enc Tryz.prog w base (fun _ => true) held fuel 76 cs = some x) :
    ∃ y : TabD, rdTab w y cs ∧ cs.length = 6 ∧ TabWf y := by
  have k0 : Tryz.prog.cellsOf 29 = 2 := by kernel_rfl
  have k1 : Tryz.prog.cellsOf 69 = 1 := by kernel_rfl
  have k2 : Tryz.prog.cellsOf 4 = 1 := by kernel_rfl
  have k3 : Tryz.prog.cellsOf 9 = 1 := by kernel_rfl
  have k4 : Tryz.prog.cellsOf 74 = 1 := by kernel_rfl
  have kk : Tryz.prog.cellsOf 76 = 6 := by kernel_rfl
  obtain ⟨xs, n, -, rfl, hl, hlen, hf⟩ := DataW.trod_struct Tryz.underlying76 h
  rw [kk] at hl
  clear h
  match xs, hlen with
  | [y0, y1, y2, y3, y4], _ =>
    match cs, hl with
    | [c0, c1, c2, c3, c4, c5], _ =>
      have z0 := hf 0 _ rfl
      have z1 := hf 1 _ rfl
      have z2 := hf 2 _ rfl
      have z3 := hf 3 _ rfl
      have z4 := hf 4 _ rfl
      clear hf
      simp only [List.getElem_toArray, List.getElem_cons_zero, List.getElem_cons_succ, k0, k1, k2, k3, k4, List.drop_zero, List.drop_succ_cons, List.take_succ_cons, List.take_zero, List.getElem?_cons_zero, List.getElem?_cons_succ] at z0 z1 z2 z3 z4
      obtain ⟨p1, p2, e0, d0, -, -⟩ := open_place z0
      obtain ⟨id, e1, d1, w1⟩ := DataW.trod_int Tryz.underlying69 z1
      obtain ⟨wd, e2, d2⟩ := DataW.trod_bool Tryz.underlying4 z2
      obtain ⟨sg, e3, d3, w3⟩ := DataW.trod_string Tryz.underlying9 z3
      obtain ⟨a4, cap4, l, e4, hs4, ok4, -⟩ := open_flat Tryz.underlying74 flat_row z4
      simp only [List.cons.injEq, and_true] at e0 e1 e2 e3 e4
      obtain ⟨rfl, rfl⟩ := e0
      subst e1
      subst e2
      subst e3
      subst e4
      have hb1 := u32_bd w1
      obtain ⟨id, rfl⟩ := Int.eq_ofNat_of_zero_le hb1.1
      exact ⟨⟨p1, p2, id, wd, sg.data.toList, l⟩, ⟨a4, cap4, rfl, hs4⟩, rfl, ⟨by have := hb1.2; show id < 4294967296; omega, Nat.le_trans w3 (by decide), fun r hr => ⟨(ok4 r hr).1, Nat.le_trans (ok4 r hr).2 (by decide)⟩⟩⟩

set_option maxRecDepth 100000 in
set_option maxHeartbeats 1000000 in
theorem open_db {H : Type} {enc : TypeId × Value → H} {w : World} {base : Nat} {held : Bool} {fuel : Nat} {cs : List Value} {x : DataW H × List MemPlace} (h : DataW.trod enc Tryz.prog w base (fun _ => true) held fuel 38 cs = some x) :
    ∃ y : DbD, rdDb w y cs ∧ cs.length = 9 ∧ DbWf y := by
  have k0 : Tryz.prog.cellsOf 4 = 1 := by kernel_rfl
  have k1 : Tryz.prog.cellsOf 31 = 3 := by kernel_rfl
  have k2 : Tryz.prog.cellsOf 34 = 3 := by kernel_rfl
  have k3 : Tryz.prog.cellsOf 35 = 1 := by kernel_rfl
  have k4 : Tryz.prog.cellsOf 36 = 1 := by kernel_rfl
  have kk : Tryz.prog.cellsOf 38 = 9 := by kernel_rfl
  obtain ⟨xs, n, -, rfl, hl, hlen, hf⟩ := DataW.trod_struct Tryz.underlying38 h
  rw [kk] at hl
  clear h
  match xs, hlen with
  | [y0, y1, y2, y3, y4], _ =>
    match cs, hl with
    | [c0, c1, c2, c3, c4, c5, c6, c7, c8], _ =>
      have z0 := hf 0 _ rfl
      have z1 := hf 1 _ rfl
      have z2 := hf 2 _ rfl
      have z3 := hf 3 _ rfl
      have z4 := hf 4 _ rfl
      clear hf
      simp only [List.getElem_toArray, List.getElem_cons_zero, List.getElem_cons_succ, k0, k1, k2, k3, k4, List.drop_zero, List.drop_succ_cons, List.take_succ_cons, List.take_zero, List.getElem?_cons_zero, List.getElem?_cons_succ] at z0 z1 z2 z3 z4
      obtain ⟨hv, e0, d0⟩ := DataW.trod_bool Tryz.underlying4 z0
      obtain ⟨v, e1, w1⟩ := open_ver z1
      obtain ⟨s, a2, cap2, e2, hs2, ok2⟩ := open_sta z2
      obtain ⟨a3, cap3, l, e3, hs3, ok3, -⟩ := open_rd (rd := rdMsg) (Q := fun s _ => MsgWf s) Tryz.underlying35 (by kernel_rfl) (fun fuel cs x h => open_msg h) z3
      obtain ⟨a4, cap4, t, e4, hs4, ok4, -⟩ := open_rd (rd := rdTab) (Q := fun s _ => TabWf s) Tryz.underlying36 (by kernel_rfl) (fun fuel cs x h => open_tab h) z4
      simp only [List.cons.injEq, and_true] at e0 e3 e4
      subst e0
      unfold VerD.cells at e1
      simp only [List.cons.injEq, and_true] at e1
      obtain ⟨rfl, rfl, rfl⟩ := e1
      unfold StaD.cells at e2
      simp only [List.cons.injEq, and_true] at e2
      obtain ⟨rfl, rfl, rfl⟩ := e2
      subst e3
      subst e4
      exact ⟨⟨hv, v, s, l, t⟩, ⟨a2, cap2, a3, cap3, a4, cap4, rfl, hs2, hs3, hs4⟩, rfl, ⟨Nat.le_trans w1 (by decide), fun r hr => Nat.le_trans (ok2 r hr) (by decide), fun m hm => by obtain ⟨_, h⟩ := ok3 m hm; exact h, fun m hm => by obtain ⟨_, h⟩ := ok4 m hm; exact h⟩⟩

end Go.Proofs.YtkblpaabknjckaaGreatDoor
