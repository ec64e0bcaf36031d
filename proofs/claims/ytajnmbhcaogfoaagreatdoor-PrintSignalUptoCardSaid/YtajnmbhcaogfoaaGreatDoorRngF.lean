/-
  A range over a function whose iterator keeps cells of its own: the caller's law; what an iterator owes. (Over whatever program.)
-/
import Derived.RangeFuncNested
import Derived.RangeFuncBound
import Derived.RangeFuncCalls
import Derived.RangeFuncLeaves
import Derived.RangeFuncFrom
import Derived.WalkKit
namespace Go.Proofs.YtajnmbhcaogfoaaGreatDoor
set_option linter.unusedVariables false
open Go.RowKit

/-- blocks from B on that lay lie as they lay -/
structure Beyond (B : Nat) (W W' : World) : Prop where
  size : W.heap.size ≤ W'.heap.size
  same : ∀ k, B ≤ k → k < W.heap.size → W'.heap[k]? = W.heap[k]?
theorem Beyond.refl (B : Nat) (W : World) : Beyond B W W := ⟨Nat.le_refl _, fun _ _ _ => rfl⟩
theorem Beyond.trans {B : Nat} {X Y Z : World} (h : Beyond B X Y) (k : Beyond B Y Z) : Beyond B X Z :=
  ⟨Nat.le_trans h.size k.size, fun i h1 h2 => (k.same i h1 (Nat.lt_of_lt_of_le h2 h.size)).trans (h.same i h1 h2)⟩
theorem Beyond.mono {B B' : Nat} {X Y : World} (h : Beyond B X Y) (hB : B ≤ B') : Beyond B' X Y := ⟨h.size, fun k h1 h2 => h.same k (Nat.le_trans hB h1) h2⟩
theorem Beyond.of_below {B : Nat} {X Y : World} (h : Below X.heap.size X Y) : Beyond B X Y := ⟨h.size, fun k _ h2 => h.block k h2⟩
theorem Beyond.setCell {B : Nat} {X Y : World} (h : Beyond B X Y) {p : Addr} (hp : p.block < B) (v : Value) : Beyond B X (Y.setCell p v) :=
  h.trans ⟨by show Y.heap.size ≤ (Y.heap.modify _ _).size; rw [Array.size_modify]; exact Nat.le_refl _, fun k h1 h2 => Below.heap_setCell Y p v k (by omega)⟩
theorem Beyond.putLow {B l : Nat} {W : World} (o : Obj) (hl : l < B) : Beyond B W (W.putObj l o) :=
  ⟨by rw [World.putObj_size]; exact Nat.le_refl _, fun k h1 h2 => World.putObj_heap_other (by omega)⟩
theorem below_put {B l : Nat} {W : World} (o : Obj) (hl : B ≤ l) : Below B W (W.putObj l o) :=
  ⟨rfl, rfl, rfl, by rw [World.putObj_size]; exact Nat.le_refl _, fun k hk => World.putObj_heap_other (by omega)⟩

/-- J speaks of what lies below block B alone -/
def LowB (B : Nat) (J : World → Prop) : Prop := ∀ W W', J W → Below B W W' → J W'

/-- an iterator hands the values of xs, one by one, to whatever loop -/
def IterOwn {α : Type} (F : Fence) (n : Nat) (P : Program) (g : Nat) (lb : Array Value) (encs : α → Array Value) (xs : List α) (w : World) : Prop :=
  ∀ (l : Nat) (J : Nat → World → Prop) (Jx : World → Prop) (W : World), Below w.heap.size w W → (∀ k, LowB W.heap.size (J k)) → LowB W.heap.size Jx →
    (∀ k (hk : k < xs.length) W1, J k W1 → W.heap.size ≤ W1.heap.size → YieldAt F (n - 1) P l (encs xs[k]) W1 fun e W' =>
      (e = .returned (.bool true) ∧ J (k + 1) W' ∧ Beyond W.heap.size W1 W') ∨ (e = .returned (.bool false) ∧ Jx W')) →
    J 0 W →
    CallsIn F n P g (#[.func (.yield l) #[] #[]] ++ lb) W fun e W' => (∃ v, e = .returned v) ∧ (J xs.length W' ∨ Jx W')

/-- what the body owes -/
def roundOwn (B : Nat) (I : World → Prop) (Ix : World → Prop) (W : World) : Exit → Act → World → Prop
  | .normal, _, W' => Beyond B W W' ∧ I W'
  | .ret, _, W' => Beyond B W W' ∧ Ix W'
  | .exit _, _, _ => False
  | .goto _, _, _ => False
  | .panic _, _, _ => False
  | .outgrown, _, _ => False

variable {F : Fence} {n : Nat} {P : Program}

theorem wpIn_rangeOwn {α : Type} {g : Operand} {ps : Array Tmp} {assign body : Code} {Q : Exit → Act → World → Prop} {a : Act} {w : World}
    (hro : F.round = none) (h1 : 1 ≤ n) {gf : Nat} {lb : Array Value} (hg : a.eval g = .func (.func gf) #[] lb) (hFg : F.fn gf) (eg : ∀ args w, (callFunc gf args).run P w = .ok (.enter gf args) w)
    {encs : α → Array Value} {xs : List α} {w0 : World} (hseq : IterOwn F (n - 1) P gf lb encs xs w0) (hb0 : Below w0.heap.size w0 w) (hps : ∀ x, (encs x).size = ps.size)
    (I : Nat → World → Prop) (Ix : World → Prop) (hI : ∀ k, LowB w.heap.size (I k)) (hIx : LowB w.heap.size Ix) (h0 : I 0 w)
    (Ax : Nat → Act → World → Prop) (hAx : ∀ k a' W o, Ax k a' W → Ax k a' (W.putObj (w.heap.size + 1) o))
    (hassign : ∀ (k : Nat) (hk : k < xs.length) (W : World) (K : Act → World → Prop), I k W → w.heap.size + 1 < W.heap.size →
      (∀ a' W', Beyond w.heap.size W W' → I k W' → Ax k a' W' → K a' W') →
      assign.wpIn (F.inRound (w.heap.size + 1)) (n - 1 - 1) P (Exit.then K (fun _ _ _ => False)) { tmps := (ps.zip (encs xs[k])).foldl (fun t (p, v) => t.setIfInBounds p v) a.tmps, defers := [] } W)
    (hbody : ∀ (k : Nat) (hk : k < xs.length) (a' : Act) (W : World), I k W → Ax k a' W → w.heap.size + 1 < W.heap.size →
      body.wpIn (F.inRound (w.heap.size + 1)) (n - 1 - 1) P (roundOwn w.heap.size (I (k + 1)) Ix W) a' W)
    (hdone : ∀ (W : World), I xs.length W → W.heap[w.heap.size]? = some (.deferred (some [])) → Q .normal { a with defers := { target := .collected w.heap.size, args := #[] } :: a.defers } W)
    (hstop : ∀ (W : World), Ix W → W.heap[w.heap.size]? = some (.deferred (some [])) → Code.ret.wpIn F n P Q { a with defers := { target := .collected w.heap.size, args := #[] } :: a.defers } W) :
    (Code.rangeFunc g ps assign body).wpIn F n P Q a w := by
  refine wpIn_rangeFunc fun fn hfn => ?_
  rw [hro]
  obtain ⟨mk, hmk⟩ : ∃ mk : LoopState → Option Code → Loop, mk = fun st pe => { state := st, pending := pe, fn, tmps := a.tmps, params := ps, assign, body, defers := w.heap.size } := ⟨_, rfl⟩
  obtain ⟨V, hV⟩ : ∃ V, (w.alloc (.deferred (some []))).alloc (.loop (mk .ready none)) = V := ⟨_, rfl⟩
  have hVs : V.heap.size = w.heap.size + 2 := by rw [← hV]; simp
  have hVl : V.heap[w.heap.size + 1]? = some (.loop (mk .ready none)) := by
    have := World.alloc_heap_new (w.alloc (.deferred (some []))) (.loop (mk .ready none))
    rwa [World.size_alloc, hV] at this
  have hVd : V.heap[w.heap.size]? = some (.deferred (some [])) := by
    rw [← hV]; exact (Below.heap_alloc _ _ _ (by simp)).trans (World.alloc_heap_new w _)
  have hwV : Below w.heap.size w V := by rw [← hV]; exact ((Below.refl _ w).alloc (Nat.le_refl _) _).alloc (by simp) _
  refine ⟨w.heap.size + 1, [{ target := .collected w.heap.size, args := #[] }], V, { target := .fn (.func gf) lb, args := #[.func (.yield (w.heap.size + 1)) #[] #[]] }, V, gf,
    #[.func (.yield (w.heap.size + 1)) #[] #[]] ++ lb, V, ?_, ?_, ?_, ?_, fun _ => h1, ?_⟩
  · rw [← hV, hmk]; exact run_enterLoop_outer _ _ _ _ _
  · simp only [resolve, hg]
    simp [go_sem]
  · intro f' hf'; simp [Target.leads] at hf'; subst hf'; exact hFg
  · simp [invoke, go_sem, eg]
  · have keepL : ∀ {W W' : World} {k : Nat} {o : Obj}, Below V.heap.size W W' → k < w.heap.size + 2 → W.heap[k]? = some o → W'.heap[k]? = some o := fun hb hk h => (hb.block _ (by omega)).trans h
    refine (hseq (w.heap.size + 1)
      (fun k W => I k W ∧ W.heap[w.heap.size + 1]? = some (.loop (mk .ready none)) ∧ W.heap[w.heap.size]? = some (.deferred (some [])))
      (fun W => Ix W ∧ W.heap[w.heap.size + 1]? = some (.loop (mk .done (some .ret))) ∧ W.heap[w.heap.size]? = some (.deferred (some [])))
      V (hb0.trans (hwV.mono hb0.size))
      (fun k W W' h hb => ⟨hI k W W' h.1 (hb.mono (by omega)), keepL hb (by omega) h.2.1, keepL hb (by omega) h.2.2⟩)
      (fun W W' h hb => ⟨hIx W W' h.1 (hb.mono (by omega)), keepL hb (by omega) h.2.1, keepL hb (by omega) h.2.2⟩)
      ?_ ⟨hI 0 w V h0 hwV, hVl, hVd⟩).mono ?_
    · rintro k hk W ⟨hi, hl, hd⟩ hsz
      have hy := run_yield (P := P) (args := encs xs[k]) hl (by rw [hmk]; exact hps _)
      rw [hmk] at hy
      refine ⟨fn, _, assign, body, hy, roundIn_of_wpIn hfn (hassign k hk W _ hi (by omega) ?_)⟩
      clear hy
      intro a' Wa hba hia hax
      have hla := (hba.same (w.heap.size + 1) (by omega) (by omega)).trans hl
      have hda := (hba.same w.heap.size (Nat.le_refl _) (by omega)).trans hd
      refine ⟨_, run_beginRound hla (by rw [hmk]), ?_⟩
      obtain ⟨Wb, hWb⟩ : ∃ Wb, Wa.putObj (w.heap.size + 1) (.loop { mk .ready none with state := .busy }) = Wb := ⟨_, rfl⟩
      have hsa : w.heap.size + 1 < Wa.heap.size := (Array.getElem?_eq_some_iff.1 hla).1
      have hlb : Wb.heap[w.heap.size + 1]? = some (.loop { mk .ready none with state := .busy }) := by rw [← hWb]; exact World.putObj_heap_same hsa
      have hdb : Wb.heap[w.heap.size]? = some (.deferred (some [])) := by rw [← hWb]; exact (World.putObj_heap_other (by omega)).trans hda
      have hib : I k Wb := by rw [← hWb]; exact hI k _ _ hia (below_put _ (by omega))
      have hxb : Ax k a' Wb := by rw [← hWb]; exact hAx k a' Wa _ hax
      have hsb : w.heap.size + 1 < Wb.heap.size := by rw [← hWb, World.putObj_size]; exact hsa
      have hbb : Beyond (w.heap.size + 2) W Wb := by rw [← hWb]; exact (hba.mono (by omega)).trans (Beyond.putLow _ (by omega))
      rw [hWb]
      refine wpIn_mono (hbody k hk a' Wb hib hxb hsb) ?_
      have fin : ∀ (jump : Option Code) (W3 : World), Beyond w.heap.size Wb W3 →
          (Instr.endRound (w.heap.size + 1) jump).run P W3 = .ok (.bool jump.isNone) (W3.putObj (w.heap.size + 1) (.loop (mk (if jump.isNone then .ready else .done) jump))) ∧
          (W3.putObj (w.heap.size + 1) (.loop (mk (if jump.isNone then .ready else .done) jump))).heap[w.heap.size + 1]? = some (.loop (mk (if jump.isNone then .ready else .done) jump)) ∧
          (W3.putObj (w.heap.size + 1) (.loop (mk (if jump.isNone then .ready else .done) jump))).heap[w.heap.size]? = some (.deferred (some [])) ∧
          Beyond V.heap.size W (W3.putObj (w.heap.size + 1) (.loop (mk (if jump.isNone then .ready else .done) jump))) := fun jump W3 hb3 => by
        have hl3 := (hb3.same (w.heap.size + 1) (by omega) hsb).trans hlb
        have hd3 := (hb3.same w.heap.size (Nat.le_refl _) (by omega)).trans hdb
        have hr := run_endRound (P := P) jump hl3
        have hl4 := hl3
        rw [hmk] at hr ⊢
        exact ⟨hr, World.putObj_heap_same (Array.getElem?_eq_some_iff.1 hl4).1, (World.putObj_heap_other (by omega)).trans hd3,
          by rw [hVs]; exact (hbb.trans (hb3.mono (by omega))).trans (Beyond.putLow _ (by omega))⟩
      rintro e a3 W3 hp
      cases e with
      | normal =>
        obtain ⟨hb3, hi3⟩ := hp
        obtain ⟨hr, hl4, hd4, hb4⟩ := fin none W3 hb3
        exact ⟨_, _, hr, .inl ⟨rfl, ⟨hI _ _ _ hi3 (below_put _ (by omega)), hl4, hd4⟩, hb4⟩⟩
      | ret =>
        obtain ⟨hb3, hi3⟩ := hp
        obtain ⟨hr, hl4, hd4, hb4⟩ := fin (some .ret) W3 hb3
        exact ⟨_, _, hr, .inr ⟨rfl, hIx _ _ hi3 (below_put _ (by omega)), hl4, hd4⟩⟩
      | exit id => exact hp.elim
      | goto t => exact hp.elim
      | panic ch => exact hp.elim
      | outgrown => exact hp.elim
    · rintro e W2 ⟨⟨v, rfl⟩, (⟨hi, hl, hd⟩ | ⟨hi, hl, hd⟩)⟩
      · exact ⟨none, _, by have := run_endLoop (P := P) hl (by rw [hmk]; simp); rw [hmk] at this; exact this, hdone _ (hI _ _ _ hi (below_put _ (by omega))) ((World.putObj_heap_other (by omega)).trans hd)⟩
      · exact ⟨some .ret, _, by have := run_endLoop (P := P) hl (by rw [hmk]; simp); rw [hmk] at this; exact this, hstop _ (hIx _ _ hi (below_put _ (by omega))) ((World.putObj_heap_other (by omega)).trans hd)⟩
end Go.Proofs.YtajnmbhcaogfoaaGreatDoor
