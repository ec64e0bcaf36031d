/-
  lex.number: contract.
-/
import Derived.RangeFuncNested
import Derived.RangeFuncBound
import Derived.RangeFuncCalls
import Derived.RangeFuncLeaves
import Derived.RangeFuncFrom
import Derived.WalkKit
import Derived.Test.YtampdbkafkcfdaaGreatDoorLexM
import Derived.Test.YtampdbkafkcfdaaGreatDoorBaseD
import Derived.Test.YtampdbkafkcfdaaGreatDoorShelf
import Derived.Shelf.Abstract
import Derived.Shelf.RegionOpen
import Derived.OwnWalkIn
import Derived.TacticsInMore
import Derived.LoopNIn
import Derived.LoopIn
import Derived.Lib.OthersKept
import Derived.Test.YtampdbkafkcfdaaGreatDoorParR
import Derived.Test.YtampdbkafkcfdaaGreatDoorRatD
import Derived.Deep.Cut
import Derived.Deep.DeepCutAuto

namespace Go.Proofs.YtampdbkafkcfdaaGreatDoor
set_option linter.unusedVariables false
open Go.RowKit

/-- blocks from B on that lay lie as they lay -/
structure Beyond (B : Nat) (W W' : World) : Prop where
  size : W.heap.size ≤ W'.heap.size
  same : ∀ k, B ≤ k → k < W.heap.size → W'.heap[k]? = W.heap[k]?
theorem Beyond.refl (B : Nat) (W : World) : Beyond B W W := ⟨Nat.le_refl _, fun _ _ _ => rfl⟩
theorem Beyond.trans {B : Nat} {X Y Z : World} (h : Beyond B X Y) (k : Beyond B Y Z) : Beyond B X Z :=
  ⟨Nat.le_trans h.size k.size, fun i h1 h2 => (k.same i h1 (Nat.lt_of_lt_of_le h2 h.size)).trans (h.same i h1 h2)⟩
theorem Beyond.mono {B B' : Nat} {X Y : World} (h : Beyond B X Y) (hB : B ≤ B') : Beyond B' X Y := ⟨h.size, fun k h1 h2 => h.same k (Nat.le_trans hB h1) h2⟩
theorem Beyond.of_below {B : Nat} {X Y : World} (h : Below X.heap.size X Y) : Beyond B X Y := ⟨h.size, fun k _ h2 => h.block k h2⟩
theorem Beyond.setCell {B : Nat} {X Y : World} (h : Beyond B X Y) {p : Addr} (hp : p.block < B) (v : Value) : Beyond B X (Y.setCell p v) :=
  h.trans ⟨by show Y.heap.size ≤ (Y.heap.modify _ _).size; rw [Array.size_modify]; exact Nat.le_refl _, fun k h1 h2 => Below.heap_setCell Y p v k (by omega)⟩
theorem Beyond.putLow {B l : Nat} {W : World} (o : Obj) (hl : l < B) : Beyond B W (W.putObj l o) :=
  ⟨by rw [World.putObj_size]; exact Nat.le_refl _, fun k h1 h2 => World.putObj_heap_other (by omega)⟩
theorem below_put {B l : Nat} {W : World} (o : Obj) (hl : B ≤ l) : Below B W (W.putObj l o) :=
  ⟨rfl, rfl, rfl, by rw [World.putObj_size]; exact Nat.le_refl _, fun k hk => World.putObj_heap_other (by omega)⟩

/-- J speaks of what lies below block B alone -/
def LowB (B : Nat) (J : World → Prop) : Prop := ∀ W W', J W → Below B W W' → J W'

/-- an iterator hands the values of xs, one by one, to whatever loop -/
def IterOwn {α : Type} (F : Fence) (n : Nat) (P : Program) (g : Nat) (lb : Array Value) (encs : α → Array Value) (xs : List α) (w : World) : Prop :=
  ∀ (l : Nat) (J : Nat → World → Prop) (Jx : World → Prop) (W : World), Below w.heap.size w W → (∀ k, LowB W.heap.size (J k)) → LowB W.heap.size Jx →
    (∀ k (hk : k < xs.length) W1, J k W1 → W.heap.size ≤ W1.heap.size → YieldAt F (n - 1) P l (encs xs[k]) W1 fun e W' =>
      (e = .returned (.bool true) ∧ J (k + 1) W' ∧ Beyond W.heap.size W1 W') ∨ (e = .returned (.bool false) ∧ Jx W')) →
    J 0 W →
    CallsIn F n P g (#[.func (.yield l) #[] #[]] ++ lb) W fun e W' => (∃ v, e = .returned v) ∧ (J xs.length W' ∨ Jx W')

/-- what the body owes -/
def roundOwn (B : Nat) (I : World → Prop) (Ix : World → Prop) (W : World) : Exit → Act → World → Prop
  | .normal, _, W' => Beyond B W W' ∧ I W'
  | .ret, _, W' => Beyond B W W' ∧ Ix W'
  | .exit _, _, _ => False
  | .goto _, _, _ => False
  | .panic _, _, _ => False
  | .outgrown, _, _ => False

variable {F : Fence} {n : Nat} {P : Program}

theorem wpIn_rangeOwn {α : Type} {g : Operand} {ps : Array Tmp} {assign body : Code} {Q : Exit → Act → World → Prop} {a : Act} {w : World}
    (hro : F.round = none) (h1 : 1 ≤ n) {gf : Nat} {lb : Array Value} (hg : a.eval g = .func (.func gf) #[] lb) (hFg : F.fn gf) (eg : ∀ args w, (callFunc gf args).run P w = .ok (.enter gf args) w)
    {encs : α → Array Value} {xs : List α} {w0 : World} (hseq : IterOwn F (n - 1) P gf lb encs xs w0) (hb0 : Below w0.heap.size w0 w) (hps : ∀ x, (encs x).size = ps.size)
    (I : Nat → World → Prop) (Ix : World → Prop) (hI : ∀ k, LowB w.heap.size (I k)) (hIx : LowB w.heap.size Ix) (h0 : I 0 w)
    (Ax : Nat → Act → World → Prop) (hAx : ∀ k a' W o, Ax k a' W → Ax k a' (W.putObj (w.heap.size + 1) o))
    (hassign : ∀ (k : Nat) (hk : k < xs.length) (W : World) (K : Act → World → Prop), I k W → w.heap.size + 1 < W.heap.size →
      (∀ a' W', Beyond w.heap.size W W' → I k W' → Ax k a' W' → K a' W') →
      assign.wpIn (F.inRound (w.heap.size + 1)) (n - 1 - 1) P (Exit.then K (fun _ _ _ => False)) { tmps := (ps.zip (encs xs[k])).foldl (fun t (p, v) => t.setIfInBounds p v) a.tmps, defers := [] } W)
    (hbody : ∀ (k : Nat) (hk : k < xs.length) (a' : Act) (W : World), I k W → Ax k a' W → w.heap.size + 1 < W.heap.size →
      body.wpIn (F.inRound (w.heap.size + 1)) (n - 1 - 1) P (roundOwn w.heap.size (I (k + 1)) Ix W) a' W)
    (hdone : ∀ (W : World), I xs.length W → W.heap[w.heap.size]? = some (.deferred (some [])) → Q .normal { a with defers := { target := .collected w.heap.size, args := #[] } :: a.defers } W)
    (hstop : ∀ (W : World), Ix W → W.heap[w.heap.size]? = some (.deferred (some [])) → Code.ret.wpIn F n P Q { a with defers := { target := .collected w.heap.size, args := #[] } :: a.defers } W) :
    (Code.rangeFunc g ps assign body).wpIn F n P Q a w := by
  refine wpIn_rangeFunc fun fn hfn => ?_
  rw [hro]
  obtain ⟨mk, hmk⟩ : ∃ mk : LoopState → Option Code → Loop, mk = fun st pe => { state := st, pending := pe, fn, tmps := a.tmps, params := ps, assign, body, defers := w.heap.size } := ⟨_, rfl⟩
  obtain ⟨V, hV⟩ : ∃ V, (w.alloc (.deferred (some []))).alloc (.loop (mk .ready none)) = V := ⟨_, rfl⟩
  have hVs : V.heap.size = w.heap.size + 2 := by rw [← hV]; simp
  have hVl : V.heap[w.heap.size + 1]? = some (.loop (mk .ready none)) := by
    have := World.alloc_heap_new (w.alloc (.deferred (some []))) (.loop (mk .ready none))
    rwa [World.size_alloc, hV] at this
  have hVd : V.heap[w.heap.size]? = some (.deferred (some [])) := by
    rw [← hV]; exact (Below.heap_alloc _ _ _ (by simp)).trans (World.alloc_heap_new w _)
  have hwV : Below w.heap.size w V := by rw [← hV]; exact ((Below.refl _ w).alloc (Nat.le_refl _) _).alloc (by simp) _
  refine ⟨w.heap.size + 1, [{ target := .collected w.heap.size, args := #[] }], V, { target := .fn (.func gf) lb, args := #[.func (.yield (w.heap.size + 1)) #[] #[]] }, V, gf,
    #[.func (.yield (w.heap.size + 1)) #[] #[]] ++ lb, V, ?_, ?_, ?_, ?_, fun _ => h1, ?_⟩
  · rw [← hV, hmk]; exact run_enterLoop_outer _ _ _ _ _
  · simp only [resolve, hg]
    simp [go_sem]
  · intro f' hf'; simp [Target.leads] at hf'; subst hf'; exact hFg
  · simp [invoke, go_sem, eg]
  · have keepL : ∀ {W W' : World} {k : Nat} {o : Obj}, Below V.heap.size W W' → k < w.heap.size + 2 → W.heap[k]? = some o → W'.heap[k]? = some o := fun hb hk h => (hb.block _ (by omega)).trans h
    refine (hseq (w.heap.size + 1)
      (fun k W => I k W ∧ W.heap[w.heap.size + 1]? = some (.loop (mk .ready none)) ∧ W.heap[w.heap.size]? = some (.deferred (some [])))
      (fun W => Ix W ∧ W.heap[w.heap.size + 1]? = some (.loop (mk .done (some .ret))) ∧ W.heap[w.heap.size]? = some (.deferred (some [])))
      V (hb0.trans (hwV.mono hb0.size))
      (fun k W W' h hb => ⟨hI k W W' h.1 (hb.mono (by omega)), keepL hb (by omega) h.2.1, keepL hb (by omega) h.2.2⟩)
      (fun W W' h hb => ⟨hIx W W' h.1 (hb.mono (by omega)), keepL hb (by omega) h.2.1, keepL hb (by omega) h.2.2⟩)
      ?_ ⟨hI 0 w V h0 hwV, hVl, hVd⟩).mono ?_
    · rintro k hk W ⟨hi, hl, hd⟩ hsz
      have hy := run_yield (P := P) (args := encs xs[k]) hl (by rw [hmk]; exact hps _)
      rw [hmk] at hy
      refine ⟨fn, _, assign, body, hy, roundIn_of_wpIn hfn (hassign k hk W _ hi (by omega) ?_)⟩
      clear hy
      intro a' Wa hba hia hax
      have hla := (hba.same (w.heap.size + 1) (by omega) (by omega)).trans hl
      have hda := (hba.same w.heap.size (Nat.le_refl _) (by omega)).trans hd
      refine ⟨_, run_beginRound hla (by rw [hmk]), ?_⟩
      obtain ⟨Wb, hWb⟩ : ∃ Wb, Wa.putObj (w.heap.size + 1) (.loop { mk .ready none with state := .busy }) = Wb := ⟨_, rfl⟩
      have hsa : w.heap.size + 1 < Wa.heap.size := (Array.getElem?_eq_some_iff.1 hla).1
      have hlb : Wb.heap[w.heap.size + 1]? = some (.loop { mk .ready none with state := .busy }) := by rw [← hWb]; exact World.putObj_heap_same hsa
      have hdb : Wb.heap[w.heap.size]? = some (.deferred (some [])) := by rw [← hWb]; exact (World.putObj_heap_other (by omega)).trans hda
      have hib : I k Wb := by rw [← hWb]; exact hI k _ _ hia (below_put _ (by omega))
      have hxb : Ax k a' Wb := by rw [← hWb]; exact hAx k a' Wa _ hax
      have hsb : w.heap.size + 1 < Wb.heap.size := by rw [← hWb, World.putObj_size]; exact hsa
      have hbb : Beyond (w.heap.size + 2) W Wb := by rw [← hWb]; exact (hba.mono (by omega)).trans (Beyond.putLow _ (by omega))
      rw [hWb]
      refine wpIn_mono (hbody k hk a' Wb hib hxb hsb) ?_
      have fin : ∀ (jump : Option Code) (W3 : World), Beyond w.heap.size Wb W3 →
          (Instr.endRound (w.heap.size + 1) jump).run P W3 = .ok (.bool jump.isNone) (W3.putObj (w.heap.size + 1) (.loop (mk (if jump.isNone then .ready else .done) jump))) ∧
          (W3.putObj (w.heap.size + 1) (.loop (mk (if jump.isNone then .ready else .done) jump))).heap[w.heap.size + 1]? = some (.loop (mk (if jump.isNone then .ready else .done) jump)) ∧
          (W3.putObj (w.heap.size + 1) (.loop (mk (if jump.isNone then .ready else .done) jump))).heap[w.heap.size]? = some (.deferred (some [])) ∧
          Beyond V.heap.size W (W3.putObj (w.heap.size + 1) (.loop (mk (if jump.isNone then .ready else .done) jump))) := fun jump W3 hb3 => by
        have hl3 := (hb3.same (w.heap.size + 1) (by omega) hsb).trans hlb
        have hd3 := (hb3.same w.heap.size (Nat.le_refl _) (by omega)).trans hdb
        have hr := run_endRound (P := P) jump hl3
        have hl4 := hl3
        rw [hmk] at hr ⊢
        exact ⟨hr, World.putObj_heap_same (Array.getElem?_eq_some_iff.1 hl4).1, (World.putObj_heap_other (by omega)).trans hd3,
          by rw [hVs]; exact (hbb.trans (hb3.mono (by omega))).trans (Beyond.putLow _ (by omega))⟩
      rintro e a3 W3 hp
      cases e with
      | normal =>
        obtain ⟨hb3, hi3⟩ := hp
        obtain ⟨hr, hl4, hd4, hb4⟩ := fin none W3 hb3
        exact ⟨_, _, hr, .inl ⟨rfl, ⟨hI _ _ _ hi3 (below_put _ (by omega)), hl4, hd4⟩, hb4⟩⟩
      | ret =>
        obtain ⟨hb3, hi3⟩ := hp
        obtain ⟨hr, hl4, hd4, hb4⟩ := fin (some .ret) W3 hb3
        exact ⟨_, _, hr, .inr ⟨rfl, hIx _ _ hi3 (below_put _ (by omega)), hl4, hd4⟩⟩
      | exit id => exact hp.elim
      | goto t => exact hp.elim
      | panic ch => exact hp.elim
      | outgrown => exact hp.elim
    · rintro e W2 ⟨⟨v, rfl⟩, (⟨hi, hl, hd⟩ | ⟨hi, hl, hd⟩)⟩
      · exact ⟨none, _, by have := run_endLoop (P := P) hl (by rw [hmk]; simp); rw [hmk] at this; exact this, hdone _ (hI _ _ _ hi (below_put _ (by omega))) ((World.putObj_heap_other (by omega)).trans hd)⟩
      · exact ⟨some .ret, _, by have := run_endLoop (P := P) hl (by rw [hmk]; simp); rw [hmk] at this; exact this, hstop _ (hIx _ _ hi (below_put _ (by omega))) ((World.putObj_heap_other (by omega)).trans hd)⟩
end Go.Proofs.YtampdbkafkcfdaaGreatDoor

namespace Go.Proofs.YtampdbkafkcfdaaGreatDoor
set_option linter.unusedVariables false
open Go.RowKit Go.Shelf
attribute [local go_sem] Oper.semAt_some

theorem Blk.st {w : World} {k : Nat} {cs : Array Value} (h : Blk w k cs) (j : Nat) (v : Value) : Blk (w.setCell ⟨k, j, none⟩ v) k (cs.setIfInBounds j v) := by
  obtain ⟨T, h⟩ := h
  exact ⟨T, by simp [World.setCell, Array.getElem?_modify, h]⟩
theorem Blk.same {w w' : World} {k : Nat} {cs : Array Value} (h : Blk w k cs) (e : w'.heap[k]? = w.heap[k]?) : Blk w' k cs := by
  obtain ⟨T, h⟩ := h
  exact ⟨T, e.trans h⟩

def encU (u : Unt) : Array Value := #[.agg #[.int .i64 u.line, .int .i64 u.col], .int .i32 (u.rune : Nat)]
/-- the place of the k-th unit -/
def plcU (xs : List Unt) : Nat → Int × Int
  | 0 => (1, 1)
  | k + 1 => nextP (plcU xs k) ((xs[k]?.map Unt.rune).getD 0)
theorem plc_at (s : List UInt8) (k : Nat) (hk : k < (unitsL s).length) : (unitsL s)[k].line = (plcU (unitsL s) k).1 ∧ (unitsL s)[k].col = (plcU (unitsL s) k).2 := by
  induction k with
  | zero => exact (unit_lc_f _ _ _ 0 hk).1 rfl
  | succ k ih =>
    obtain ⟨i1, i2⟩ := ih (by omega)
    have h := (unit_lc_f s.length s (1, 1) k (show k < (unitsL s).length by omega)).2 hk
    have e : plcU (unitsL s) (k + 1) = nextP ((unitsL s)[k].line, (unitsL s)[k].col) (unitsL s)[k].rune := by
      show nextP (plcU (unitsL s) k) _ = _
      rw [i1, i2, List.getElem?_eq_getElem (by omega)]; rfl
    rw [e]
    exact Prod.mk.injEq .. ▸ (show ((unitsL s)[k + 1].line, (unitsL s)[k + 1].col) = (_, _) from h)

theorem ctlU_iff (r : Nat) : ctlU r = true ↔ r < 32 ∨ r = 127 := by unfold ctlU; simp
theorem blankU_iff (r : Nat) : blankU r = true ↔ r = 32 ∨ r = 9 ∨ r = 10 ∨ r = 13 := by unfold blankU; simp [or_assoc]
theorem control_any (r : Nat) (w : World) :
    Calls Tryz.prog 96 #[.int .i32 (r : Nat)] w fun e w' => e = .returned (.bool (ctlU r)) ∧ w' = w := by
  have HI := Lib.hid (ctlU_iff r)
  generalize ctlU r = b at *
  by_cases h1 : (r : Int) < 32
  · have HB := Lib.hid (show b = true from HI.out.2 (.inl (by omega)))
    clear HI
    go_enter Tryz.func96, Tryz.ntmps96
    go_wp2_with fail
    go_ret
    exact ⟨by rw [HB.out] <;> rfl, rfl⟩
  · by_cases h2 : r = 127
    · have HB := Lib.hid (show b = true from HI.out.2 (.inr h2))
      have hb : ((r : Int) == 127) = true := by rw [h2]; rfl
      clear HI h2
      go_enter Tryz.func96, Tryz.ntmps96
      go_wp2_with fail
      go_ret
      exact ⟨by rw [HB.out] <;> rfl, rfl⟩
    · have HB := Lib.hid (show b = false by rw [Bool.eq_false_iff]; intro h; rcases HI.out.1 h with h | h <;> omega)
      have hb : ((r : Int) == 127) = false := by rw [beq_eq_false_iff_ne]; omega
      clear HI h2
      go_enter Tryz.func96, Tryz.ntmps96
      go_wp2_with fail
      go_ret
      exact ⟨by rw [HB.out] <;> rfl, rfl⟩
end Go.Proofs.YtampdbkafkcfdaaGreatDoor

namespace Go.Proofs.YtampdbkafkcfdaaGreatDoor
set_option linter.unusedVariables false
open Go.RowKit

def ltU (r : Nat) : Bool := (decide (97 ≤ r) && decide (r ≤ 122)) || (decide (65 ≤ r) && decide (r ≤ 90)) || r == 95
def dgU (r : Nat) : Bool := decide (48 ≤ r) && decide (r ≤ 57)
theorem isDg_U (c : UInt8) : isDg c = dgU c.toNat := rfl
theorem ltU_iff (r : Nat) : ltU r = true ↔ (97 ≤ r ∧ r ≤ 122) ∨ (65 ≤ r ∧ r ≤ 90) ∨ r = 95 := by unfold ltU; simp [or_assoc]
theorem dgU_iff (r : Nat) : dgU r = true ↔ 48 ≤ r ∧ r ≤ 57 := by unfold dgU; simp
theorem ltU_low {r : Nat} (h : ltU r = true) : r < 128 := by rcases (ltU_iff r).1 h with h | h | h <;> omega
theorem dgU_low {r : Nat} (h : dgU r = true) : r < 128 := by have := (dgU_iff r).1 h; omega

/-- a sign ahead -/
def sgnN : List UInt8 → Nat
  | [] => 0
  | c :: _ => if isSg c = true then 1 else 0
end Go.Proofs.YtampdbkafkcfdaaGreatDoor

namespace Go.Proofs.YtampdbkafkcfdaaGreatDoor
set_option linter.unusedVariables false
open Go.RowKit Go.Shelf
attribute [local go_sem] Oper.semAt_some

def faultV (no line col : Int) : Value := .iface 96 (.agg #[.int .i64 no, .int .i64 line, .int .i64 col])
def checkV (s : List UInt8) : Value :=
  if 1048576 < s.length then errV 5 else match checkL s with
    | none => .nilIface
    | some u => faultV 6 u.line u.col

theorem ext_from (L : List UInt8) (i : Nat) (hi : i ≤ L.length) : (⟨L.toArray⟩ : ByteArray).extract i L.length = ⟨(L.drop i).toArray⟩ := by
  have h : ∀ (a b : ByteArray), a.data.toList = b.data.toList → a = b := fun a b e => by cases a; cases b; simp at e; rw [e]
  apply h
  rw [Go.Lib.extract_data]
  show (L.drop i).take (L.length - i) = L.drop i
  rw [List.take_of_length_le (by rw [List.length_drop]; exact Nat.le_refl _)]
theorem find_none {xs : List Unt} (h : ∀ j (hj : j < xs.length), badU xs[j].rune xs[j].wide = false) : xs.find? (fun u => badU u.rune u.wide) = none := by
  rw [List.find?_eq_none]
  intro u hu
  obtain ⟨j, hj, rfl⟩ := List.getElem_of_mem hu
  rw [h j hj]; decide
theorem find_some {xs : List Unt} {k : Nat} (hk : k < xs.length) (hb : badU xs[k].rune xs[k].wide = true) (h : ∀ j (hj : j < xs.length), j < k → badU xs[j].rune xs[j].wide = false) : xs.find? (fun u => badU u.rune u.wide) = some xs[k] := by
  rw [List.find?_eq_some_iff_getElem]
  exact ⟨hb, k, hk, rfl, fun j hj => by rw [h j (by omega) hj]; rfl⟩
theorem hasPre (l : List UInt8) : Lib.hasPrefix l [239, 191, 189] = true ↔ 3 ≤ l.length ∧ (l.getD 0 0).toNat = 239 ∧ (l.getD 1 0).toNat = 191 ∧ (l.getD 2 0).toNat = 189 := by
  have e : ∀ (a : UInt8) (n : Nat), n < 256 → (a.toNat = n ↔ a = UInt8.ofNat n) := fun a n hn => ⟨fun h => by rw [← h, UInt8.ofNat_toNat], fun h => by rw [h, UInt8.toNat_ofNat_of_lt' (by simpa using hn)]⟩
  rcases l with _ | ⟨a, _ | ⟨b, _ | ⟨c, t⟩⟩⟩
  · simp [Lib.hasPrefix]
  · simp [Lib.hasPrefix]
  · simp [Lib.hasPrefix]
  · simp only [List.length_cons, List.getD_cons_zero, List.getD_cons_succ, e a 239 (by decide), e b 191 (by decide), e c 189 (by decide)]
    show List.isPrefixOf [239, 191, 189] (a :: b :: c :: t) = true ↔ _
    rw [List.isPrefixOf_iff_prefix]
    constructor
    · rintro ⟨m, hm⟩
      simp only [List.cons_append, List.nil_append, List.cons.injEq] at hm
      obtain ⟨h1, h2, h3, _⟩ := hm
      exact ⟨by omega, h1.symm, h2.symm, h3.symm⟩
    · rintro ⟨_, h1, h2, h3⟩
      subst h1 h2 h3
      exact ⟨t, rfl⟩

/-- the unit's five kinds -/
theorem unit_kind (l : List UInt8) (hl : l ≠ []) : ((decL l).1 ≠ 65533 ∧ Lib.runeLen ((decL l).1 : Int) = ((decL l).2 : Int) ∧ badU (decL l).1 (decL l).2 = (ctlU (decL l).1 && !blankU (decL l).1)) ∨
    ((decL l).1 = 65533 ∧ (decL l).2 = 3 ∧ Lib.hasPrefix l [239, 191, 189] = true ∧ badU (decL l).1 (decL l).2 = false) ∨
    ((decL l).1 = 65533 ∧ (decL l).2 = 1 ∧ Lib.hasPrefix l [239, 191, 189] = false ∧ badU (decL l).1 (decL l).2 = true) := by
  by_cases h : (decL l).1 = 65533
  · right
    rcases decN_ill l.length (l.getD 0 0).toNat (l.getD 1 0).toNat (l.getD 2 0).toNat (l.getD 3 0).toNat (UInt8.toNat_lt _) (UInt8.toNat_lt _) (UInt8.toNat_lt _) h with ⟨h1, h2⟩ | ⟨h1, h2⟩
    · right
      have e2 : (decL l).2 = 1 := h1
      refine ⟨h, e2, ?_, ?_⟩
      · rw [Bool.eq_false_iff]; intro h3; exact h2 ((hasPre l).1 h3)
      · unfold badU illU; rw [h, e2]; rfl
    · left
      have e2 : (decL l).2 = 3 := h1
      refine ⟨h, e2, (hasPre l).2 h2, ?_⟩
      unfold badU illU; rw [h, e2]; rfl
  · left
    have hi : illU (decL l).1 (decL l).2 = false := by unfold illU; rw [beq_eq_false_iff_ne.2 h]; rfl
    exact ⟨h, dec_wid l hi, by unfold badU; rw [hi]; rfl⟩

/-- between two rounds -/
def ChkI (s : List UInt8) (w : World) (k : Nat) (W : World) : Prop :=
  (Below w.heap.size w W ∧ Blk W w.heap.size #[.string ⟨s.toArray⟩] ∧ Blk W (w.heap.size + 1) #[.nilIface] ∧ Blk W (w.heap.size + 1 + 1) #[.int .i64 (posU (unitsL s) k : Nat)]) ∧
    ∀ j (hj : j < (unitsL s).length), j < k → badU (unitsL s)[j].rune (unitsL s)[j].wide = false
def ChkX (s : List UInt8) (w : World) (W : World) : Prop := Below w.heap.size w W ∧ ∃ u, checkL s = some u ∧ Blk W (w.heap.size + 1) #[faultV 6 u.line u.col]
theorem keepLow {V W W' : World} {j : Nat} {cs : Array Value} (hb : Below V.heap.size W W') (hj : j < V.heap.size) (h : Blk W j cs) : Blk W' j cs := h.same (hb.block _ hj)
theorem ChkI.low {s : List UInt8} {w V : World} (hV : V.heap.size = w.heap.size + 1 + 1 + 1 + 1) (k : Nat) : LowB V.heap.size (ChkI s w k) := fun W W' h hb =>
  ⟨⟨h.1.1.trans (hb.mono (by omega)), keepLow hb (by omega) h.1.2.1, keepLow hb (by omega) h.1.2.2.1, keepLow hb (by omega) h.1.2.2.2⟩, h.2⟩
theorem ChkX.low {s : List UInt8} {w V : World} (hV : V.heap.size = w.heap.size + 1 + 1 + 1 + 1) : LowB V.heap.size (ChkX s w) := fun W W' h hb =>
  ⟨h.1.trans (hb.mono (by omega)), let ⟨u, h1, h2⟩ := h.2; ⟨u, h1, keepLow hb (by omega) h2⟩⟩

end Go.Proofs.YtampdbkafkcfdaaGreatDoor

namespace Go.Proofs.YtampdbkafkcfdaaGreatDoor
set_option linter.unusedVariables false
open Go.RowKit

def stopN (c : UInt8) : Bool := ltU c.toNat || c == 46
def num3T (s : List UInt8) (n : Nat) : Nat := match s[n]? with
  | some c => if stopN c = true then 0 else n
  | none => n
def num2T (s : List UInt8) (n : Nat) : Nat := match s[n]? with
  | some c => if isEe c = true then (if tw (s.drop (n + 1 + sgnN (s.drop (n + 1)))) = [] then 0 else num3T s (n + 1 + sgnN (s.drop (n + 1)) + (tw (s.drop (n + 1 + sgnN (s.drop (n + 1))))).length)) else num3T s n
  | none => num3T s n
def num1T (s : List UInt8) (n : Nat) : Nat := match s[n]? with
  | some c => if c = 46 then (if tw (s.drop (n + 1)) = [] then 0 else num2T s (n + (1 + (tw (s.drop (n + 1))).length))) else num2T s n
  | none => num2T s n
/-- how many bytes the number has with which a text begins; 0: it isn't as it must be -/
def numN (s : List UInt8) : Nat := num1T s (sgnN s + (tw (s.drop (sgnN s))).length)
theorem sgnN_le (s : List UInt8) : sgnN s ≤ 1 ∧ sgnN s ≤ s.length := by
  cases s with
  | nil => exact ⟨Nat.zero_le _, Nat.le_refl _⟩
  | cons c t => show (if _ then 1 else 0) ≤ 1 ∧ (if _ then 1 else 0) ≤ (c :: t).length; split <;> simp
theorem tw_lenA (l : List UInt8) : (tw l).length ≤ l.length := by
  unfold tw; exact (List.takeWhile_sublist _).length_le
theorem at_some {s : List UInt8} {n : Nat} (h : n < s.length) : s[n]? = some s[n] := List.getElem?_eq_getElem h
theorem at_none {s : List UInt8} {n : Nat} (h : ¬ n < s.length) : s[n]? = none := List.getElem?_eq_none (by omega)
theorem num3_end {s : List UInt8} {n : Nat} (h : ¬ n < s.length) : num3T s n = n := by unfold num3T; rw [at_none h]
theorem num2_end {s : List UInt8} {n : Nat} (h : ¬ n < s.length) : num2T s n = n := by unfold num2T; rw [at_none h]; exact num3_end h
theorem num1_end {s : List UInt8} {n : Nat} (h : ¬ n < s.length) : num1T s n = n := by unfold num1T; rw [at_none h]; exact num2_end h
theorem byte_ne {c : UInt8} {m : Nat} (hm : m < 256) (h : c ≠ UInt8.ofNat m) : ((c.toNat : Int) == (m : Int)) = false := by
  rw [beq_eq_false_iff_ne]; intro e; exact h (UInt8.toNat.inj (by rw [UInt8.toNat_ofNat_of_lt' (by simpa using hm)]; omega))

end Go.Proofs.YtampdbkafkcfdaaGreatDoor
