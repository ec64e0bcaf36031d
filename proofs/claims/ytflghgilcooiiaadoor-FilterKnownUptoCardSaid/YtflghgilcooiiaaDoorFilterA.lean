/-
  Contracts: does a list of rules take a frame? The program's and the reference's.
-/
import Derived.Test.YtflghgilcooiiaaDoorListRule
import Derived.Deep.RegionHeld3
import Derived.Deep.RegionWith
import Derived.StillTailTactics
namespace Go.Proofs.YtflghgilcooiiaaDoor
set_option linter.unusedVariables false
open Go.RowKit

/-- does a rule take an identifier? -/
def takesR (r : RuleD) (wide : Bool) (id : Nat) : Bool := (r.wide == wide) && ((id ^^^ r.code) &&& r.mask == 0)
def takesN (l : List RuleD) (wide : Bool) (id : Nat) : Bool := l.any (fun r => takesR r wide id) || l.length == 0

theorem take_bits (id code mask : Nat) (h1 : id < 4294967296) (h2 : code < 4294967296) (h3 : mask < 4294967296) :
    (bits BinOp.and IntKind.u32 (bits BinOp.xor IntKind.u32 (id : Int) (code : Int)) (mask : Int) == 0) = ((id ^^^ code) &&& mask == 0) := by
  have hx : id ^^^ code < 4294967296 := Nat.xor_lt_two_pow (n := 32) h1 h2
  rw [u32_xor_nat _ _ h1 h2, u32_and_nat _ _ hx h3, Bool.eq_iff_iff]
  simp only [beq_iff_eq]
  omega

set_option maxHeartbeats 400000 in
theorem takes24_any (r : RuleD) (hr : okRule r) (wide : Bool) (id : Nat) (hid : id < 4294967296) (w : World) :
    Calls Tryd.prog 33 #[.agg #[.bool r.wide, .int .u32 r.code, .int .u32 r.mask], .bool wide, .int .u32 id] w fun e w' => e = .returned (.bool (takesR r wide id)) ∧ Below w.heap.size w w' := by
  have ht := take_bits id r.code r.mask hid hr.1 hr.2
  obtain ⟨rw', rc, rm⟩ := r
  simp only at ht
  unfold takesR
  simp only
  rw [← ht]
  generalize hq : (rw' == wide) = q
  cases q
  all_goals
    go_enter Tryd.func33, Tryd.ntmps33
    go_wp2
    go_ret
    exact ⟨by first | (simp; done) | (simp [ht]; done), (Below.refl _ _).alloc (Nat.le_refl _) _⟩

def frameV (id : Nat) (wide : Bool) (d : Value) : Value := .agg #[.int .u32 id, .bool wide, d]

set_option maxHeartbeats 1000000 in
theorem takes_any (l : List RuleD) (hl : ∀ r ∈ l, okRule r) (n : Nat) (hn : n = l.length) (a : Option Addr) (cap : Nat) (id : Nat) (hid : id < 4294967296) (wide : Bool) (d : Value) (w : World) (hs : SlR w a cap l) :
    Calls Tryd.prog 16 #[.slice a n cap, .agg #[.int .u32 id, .bool wide, d]] w fun e w' => e = .returned (.bool (takesN l wide id)) ∧ Below w.heap.size w w' := by
  subst hn
  have h1 := hs.len
  go_enter Tryd.func16, Tryd.ntmps16
  go_wp2_with fail
  obtain ⟨W1, hW1⟩ : ∃ W1, W1 = w.alloc (.cells #[.int .u32 id, .bool wide, d] 32) := ⟨_, rfl⟩
  have hb0 : Below w.heap.size w W1 := by rw [hW1]; exact (Below.refl _ _).alloc (Nat.le_refl _) _
  have hz : W1.heap.size = w.heap.size + 1 := by rw [hW1]; simp
  have hc0 : W1.cell? ⟨w.heap.size, 0, none⟩ = some (.int .u32 id) := by rw [hW1]; go_simp
  have hc1 : W1.cell? ⟨w.heap.size, 1, none⟩ = some (.bool wide) := by rw [hW1]; go_simp
  rw [← hW1]
  have hs1 : SlR W1 a cap l := hs.keep hb0 (Nat.le_refl _)
  clear hW1 hs
  go_loopw [6, 9] (fun _ i wr => ∃ k : Nat, k ≤ l.length ∧ i = .int .i64 k ∧ (l.take k).any (fun r => takesR r wide id) = false ∧ Below W1.heap.size W1 wr) (fun _ i _ => l.length - (intOf i).toNat)
  case atStart => exact ⟨0, Nat.zero_le _, rfl, rfl, Below.refl _ _⟩
  case round =>
    obtain ⟨k, hk, rfl, hno, hbel⟩ := hrel
    have hd0 : wr.cell? ⟨w.heap.size, 0, none⟩ = some (.int .u32 id) := by rw [hbel.cell (p := ⟨w.heap.size, 0, none⟩) (by simp; omega)]; exact hc0
    have hd1 : wr.cell? ⟨w.heap.size, 1, none⟩ = some (.bool wide) := by rw [hbel.cell (p := ⟨w.heap.size, 1, none⟩) (by simp; omega)]; exact hc1
    have hwz := hbel.size
    have hne : w.heap.size < wr.heap.size := by omega
    have HNO := Lib.hid hno
    by_cases hlt : k < l.length
    · obtain ⟨b, o, rfl, hb, hr0, hr1, hr2⟩ := SlR.at (hs1.keep hbel (Nat.le_refl _)) hlt
      have hok := hl l[k] (List.getElem_mem hlt)
      have ht := take_bits id l[k].code l[k].mask hid hok.1 hok.2
      have hany : Hid ((l.take (k + 1)).any (fun r => takesR r wide id) = takesR l[k] wide id) := by
        show _ = _
        rw [take_snoc' l k hlt, List.any_append, hno]
        simp
      have htk : Hid (takesR l[k] wide id = ((l[k].wide == wide) && ((id ^^^ l[k].code) &&& l[k].mask == 0))) := rfl
      have hmem : Hid (takesR l[k] wide id = true → takesN l wide id = true) := fun h => by
        unfold takesN
        rw [Bool.or_eq_true, List.any_eq_true]
        exact .inl ⟨l[k], List.getElem_mem hlt, h⟩
      have HT := Lib.hid ht
      generalize takesR l[k] wide id = tk at *
      generalize l[k].wide = x0 at *
      generalize l[k].code = x1 at *
      generalize l[k].mask = x2 at *
      have hbz := hbel.alloc (by omega : W1.heap.size ≤ wr.heap.size) (.cells #[.bool x0, .int .u32 x1, .int .u32 x2] 38)
      clear hno hok hs1 ht
      cases hq : (x0 == wide)
      · go_wp2_with fail
        go_roundw
        case rel => exact ⟨k + 1, by omega, by go_num, by rw [hany.out, htk.out, hq]; rfl, hbz⟩
        case measure => simp [intOf]; omega
      · cases hq2 : ((id ^^^ x1) &&& x2 == 0)
        all_goals
          have hq3 := HT.out
          rw [hq2] at hq3
          have HQ := Lib.hid hq
          have HQ2 := Lib.hid hq2
          clear hq2
          go_wp2_with fail
        · go_roundw
          case rel => exact ⟨k + 1, by omega, by go_num, by rw [hany.out, htk.out, HQ.out, HQ2.out]; rfl, hbz⟩
          case measure => simp [intOf]; omega
        · go_ret
          exact ⟨by rw [hmem.out (by rw [htk.out, HQ.out, HQ2.out]; rfl)]; rfl, hb0.trans (hbz.mono (by omega))⟩
    · have : k = l.length := by omega
      subst this
      rw [List.take_length] at hno
      have hfin : Hid (takesN l wide id = ((l.length : Int) == 0)) := by
        show _ = _
        unfold takesN
        rw [hno, Bool.eq_iff_iff]
        simp
      clear hno
      go_wp2_with fail
      go_ret
      exact ⟨by rw [hfin.out]; first | rfl | (simp; done), hb0.trans (hbel.mono (by omega))⟩

set_option maxHeartbeats 1000000 in
theorem takesRef_any (l : List RuleD) (hl : ∀ r ∈ l, okRule r) (n : Nat) (hn : n = l.length) (a : Option Addr) (cap : Nat) (id : Nat) (hid : id < 4294967296) (wide : Bool) (d : Value) (w : World) (hs : SlR w a cap l) :
    Calls Tryd.prog 30 #[.slice a n cap, .agg #[.int .u32 id, .bool wide, d]] w fun e w' => e = .returned (.bool (takesN l wide id)) ∧ Below w.heap.size w w' := by
  subst hn
  have h1 := hs.len
  go_enter Tryd.func30, Tryd.ntmps30
  go_wp2_with fail
  obtain ⟨W1, hW1⟩ : ∃ W1, W1 = w.alloc (.cells #[.int .u32 id, .bool wide, d] 32) := ⟨_, rfl⟩
  have hb0 : Below w.heap.size w W1 := by rw [hW1]; exact (Below.refl _ _).alloc (Nat.le_refl _) _
  have hz : W1.heap.size = w.heap.size + 1 := by rw [hW1]; simp
  have hc0 : W1.cell? ⟨w.heap.size, 0, none⟩ = some (.int .u32 id) := by rw [hW1]; go_simp
  have hc1 : W1.cell? ⟨w.heap.size, 1, none⟩ = some (.bool wide) := by rw [hW1]; go_simp
  rw [← hW1]
  have hs1 : SlR W1 a cap l := hs.keep hb0 (Nat.le_refl _)
  clear hW1 hs
  go_loopw [5] (fun i wr => ∃ k : Nat, k ≤ l.length ∧ i = .int .i64 k ∧ (l.take k).any (fun r => takesR r wide id) = false ∧ Below W1.heap.size W1 wr) (fun i _ => l.length - (intOf i).toNat)
  case atStart => exact ⟨0, Nat.zero_le _, rfl, rfl, Below.refl _ _⟩
  case round =>
    obtain ⟨k, hk, rfl, hno, hbel⟩ := hrel
    have hd0 : wr.cell? ⟨w.heap.size, 0, none⟩ = some (.int .u32 id) := by rw [hbel.cell (p := ⟨w.heap.size, 0, none⟩) (by simp; omega)]; exact hc0
    have hd1 : wr.cell? ⟨w.heap.size, 1, none⟩ = some (.bool wide) := by rw [hbel.cell (p := ⟨w.heap.size, 1, none⟩) (by simp; omega)]; exact hc1
    have hwz := hbel.size
    have hne : w.heap.size < wr.heap.size := by omega
    have HNO := Lib.hid hno
    by_cases hlt : k < l.length
    · obtain ⟨b, o, rfl, hb, hr0, hr1, hr2⟩ := SlR.at (hs1.keep hbel (Nat.le_refl _)) hlt
      have hok := hl l[k] (List.getElem_mem hlt)
      have hany : Hid ((l.take (k + 1)).any (fun r => takesR r wide id) = takesR l[k] wide id) := by
        show _ = _
        rw [take_snoc' l k hlt, List.any_append, hno]
        simp
      have hmem : Hid (takesR l[k] wide id = true → takesN l wide id = true) := fun h => by
        unfold takesN
        rw [Bool.or_eq_true, List.any_eq_true]
        exact .inl ⟨l[k], List.getElem_mem hlt, h⟩
      have hct : ∀ W, Calls Tryd.prog 33 #[.agg #[.bool l[k].wide, .int .u32 l[k].code, .int .u32 l[k].mask], .bool wide, .int .u32 id] W fun e w' => e = .returned (.bool (takesR l[k] wide id)) ∧ Below W.heap.size W w' := fun W => takes24_any l[k] hok wide id hid W
      generalize takesR l[k] wide id = tk at *
      generalize l[k].wide = x0 at *
      generalize l[k].code = x1 at *
      generalize l[k].mask = x2 at *
      have HCT := Lib.hid hct
      clear hno hok hs1 hct
      cases hq : tk
      all_goals
        go_wp2_with fail
        go_still_tail 8, (by kernel_rfl)
        change wpList _ _ _ _ _ wr.drew
        go_wp2_with fail
        refine (HCT.out _).mono ?_
        rintro e w2 ⟨rfl, hb2⟩
        rw [hq]
        have HQ := Lib.hid hq
        clear hq
        have hb3 := bstep hbel.drew hb2 (Nat.le_refl _)
        go_wp2_with fail
      · go_roundw
        case rel => exact ⟨k + 1, by omega, by go_num, by rw [hany.out, HQ.out], hb3⟩
        case measure => simp [intOf]; omega
      · go_ret
        exact ⟨by rw [hmem.out HQ.out]; rfl, hb0.trans (hb3.mono (by omega))⟩
    · have : k = l.length := by omega
      subst this
      rw [List.take_length] at hno
      have hfin : Hid (takesN l wide id = ((l.length : Int) == 0)) := by
        show _ = _
        unfold takesN
        rw [hno, Bool.eq_iff_iff]
        simp
      clear hno
      go_wp2_with fail
      go_ret
      exact ⟨by rw [hfin.out]; first | rfl | (simp; done), hb0.trans (hbel.mono (by omega))⟩
end Go.Proofs.YtflghgilcooiiaaDoor
