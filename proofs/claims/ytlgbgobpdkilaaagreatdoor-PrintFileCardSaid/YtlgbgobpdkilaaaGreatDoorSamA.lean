/-
  Are two databases the same? Contracts of the reference's looks, at equal data. (Printed by gen_sam.py.)
-/
import Derived.Test.YtlgbgobpdkilaaaGreatDoorNodB
import Derived.Test.YtlgbgobpdkilaaaGreatDoorPrnM
import Derived.BigQuiet

namespace Go.Proofs.YtlgbgobpdkilaaaGreatDoor
set_option linter.unusedVariables false
open Go.RowKit

theorem wpQuiet_loadR {P : Program} {ops : Array Oper} {C : World → Prop} {Q : Act → Prop} {rest : List Oper} {o : Oper} {a : Act} {k off : Nat} {cs : List Value} (hS : ∀ w, C w → w.rangeAt k off cs) (ty : TypeId) (x : Operand) {d : TypeDesc}
    (hu : P.underlying ty = some d) (hi : (P.info? ty).map (·.size) = some cs.length)
    (h : wpQuiet P ops C Q rest (a.put o.dst (.agg cs.toArray)))
    (hgd : o.guard = none := by rfl) (ho : o.op = .load ty x := by rfl) (hx : a.eval x = .pointer (some ⟨k, off, none⟩) := by rfl) (hd : d.isRow = true := by rfl) : wpQuiet P ops C Q (o :: rest) a := by
  unfold wpQuiet
  rw [if_pos (by simp [Region.wanted, hgd])]
  refine ⟨_, fun w hw => ?_, h⟩
  unfold Oper.quietAt execOp
  simp only [ho, hx, Instr.loadAt, Instr.sureAddr, Sem.run_bind, Sem.run_pure, Result.andThen_ok, run_loadVar_mid (P := P) w k off ty cs d (hS w hw) hu hd hi]
  exact ⟨rfl, rfl⟩
theorem Later.range {W : World} {k off : Nat} {cs : List Value} (h : W.rangeAt k off cs) (x : Later W) : x.w.rangeAt k off cs := fun j v hv => Later.cell (h j v hv) x

set_option maxHeartbeats 1000000 in
theorem sameTx_any (l : List (List UInt8)) (n m : Nat) (hn : n = l.length) (hm : m = l.length) (a b : Option Addr) (p q : Nat) (w : World) (hs : SlOf w enTx 1 a p l) (ht : SlOf w enTx 1 b q l) :
    Calls Tryz.prog 81 #[.slice a n p, .slice b m q] w fun e w' => e = .returned (.bool true) ∧ Below w.heap.size w w' := by
  subst hm
  subst hn
  have h1 := hs.len
  have h2 := ht.len
  go_enter Tryz.func81, Tryz.ntmps81
  go_wp2_with fail
  go_loopw [5] (fun x wr => ∃ i : Nat, i ≤ l.length ∧ x = .int .i64 (i : Nat) ∧ Below w.heap.size w wr) (fun x _ => l.length - (intOf x).toNat)
  case atStart => exact ⟨0, Nat.zero_le _, rfl, Below.refl _ _⟩
  case round =>
    obtain ⟨i, hi, rfl, hb⟩ := hrel
    by_cases hlt : (i : Int) < l.length
    · have hlt' : i < l.length := by omega
      obtain ⟨ba, oa, rfl, hba, hc⟩ := SlX.at (hs.keep hb (Nat.le_refl _)) hlt'
      obtain ⟨bb, ob, rfl, hbb, hd⟩ := SlX.at (ht.keep hb (Nat.le_refl _)) hlt'
      generalize l[i] = x at *
      go_wp2_with fail
      go_quiet (fail)
      go_wp2_with fail
      go_roundw
      case rel => exact ⟨i + 1, by omega, by go_num, Go.below_drewN hb _⟩
      case measure => simp [intOf]; omega
    · go_wp2_with fail
      go_ret
      exact ⟨rfl, hb⟩

set_option maxHeartbeats 1000000 in
theorem sameRw_any (l : List (Int × List UInt8)) (n m : Nat) (hn : n = l.length) (hm : m = l.length) (a b : Option Addr) (p q : Nat) (w : World) (hs : SlOf w enRw 2 a p l) (ht : SlOf w enRw 2 b q l) :
    Calls Tryz.prog 110 #[.slice a n p, .slice b m q] w fun e w' => e = .returned (.bool true) ∧ Below w.heap.size w w' := by
  subst hm
  subst hn
  have h1 := hs.len
  have h2 := ht.len
  go_enter Tryz.func110, Tryz.ntmps110
  go_wp2_with fail
  go_loopw [5] (fun x wr => ∃ i : Nat, i ≤ l.length ∧ x = .int .i64 (i : Nat) ∧ Below w.heap.size w wr) (fun x _ => l.length - (intOf x).toNat)
  case atStart => exact ⟨0, Nat.zero_le _, rfl, Below.refl _ _⟩
  case round =>
    obtain ⟨i, hi, rfl, hb⟩ := hrel
    by_cases hlt : (i : Int) < l.length
    · have hlt' : i < l.length := by omega
      obtain ⟨ba, oa, rfl, hba, hc, hc2⟩ := SlRw.at (hs.keep hb (Nat.le_refl _)) hlt'
      obtain ⟨bb, ob, rfl, hbb, hd, hd2⟩ := SlRw.at (ht.keep hb (Nat.le_refl _)) hlt'
      generalize l[i] = x at *
      go_wp2_with fail
      go_quiet (fail)
      go_wp2_with fail
      go_roundw
      case rel => exact ⟨i + 1, by omega, by go_num, Go.below_drewN hb _⟩
      case measure => simp [intOf]; omega
    · go_wp2_with fail
      go_ret
      exact ⟨rfl, hb⟩

set_option maxRecDepth 100000 in
set_option maxHeartbeats 4000000 in
theorem sameSig_any (x : SigX) (w : World) (cs ds : Array Value) (h1 : rdSig w x cs.toList) (h2 : rdSig w x ds.toList) :
    Calls Tryz.prog 128 #[.agg cs, .agg ds] w fun e w' => e = .returned (.bool true) ∧ Below w.heap.size w w' := by
  obtain ⟨a, p, e1, hs⟩ := h1
  obtain ⟨b, q, e2, ht⟩ := h2
  obtain rfl := Array.toList_inj.1 e1
  obtain rfl := Array.toList_inj.1 e2
  clear e1 e2
  have hb2 : ∀ o1 o2, Below w.heap.size w ((w.alloc o1).alloc o2) := fun o1 o2 => ((Below.refl w.heap.size w).alloc (Nat.le_refl _) o1).alloc (by simp) o2
  have HC := Lib.hid (fun o1 o2 => sameTx_any x.rs x.rs.length x.rs.length rfl rfl a b p q _ (hs.keep (hb2 o1 o2) (Nat.le_refl _)) (ht.keep (hb2 o1 o2) (Nat.le_refl _)))
  have HB := Lib.hid hb2
  clear hs ht hb2
  generalize x.rs.length = n at *
  unfold SigD.cells
  go_enter Tryz.func128, Tryz.ntmps128
  go_wp2_with fail
  with_reducible refine (HC.out _ _).mono ?_
  rintro e w1 ⟨rfl, hb⟩
  have hb3 := bstep (HB.out _ _) hb (by simp)
  go_wp2_with fail
  go_ret
  exact ⟨rfl, hb3⟩

set_option maxRecDepth 100000 in
set_option maxHeartbeats 4000000 in
theorem sameSigs_any (l : List SigX) (n m : Nat) (hn : n = l.length) (hm : m = l.length) (a b : Option Addr) (p q : Nat) (w : World) (hs : SlRd w rdSig 19 a p l) (ht : SlRd w rdSig 19 b q l) :
    Calls Tryz.prog 109 #[.slice a n p, .slice b m q] w fun e w' => e = .returned (.bool true) ∧ Below w.heap.size w w' := by
  subst hm
  subst hn
  have hmx : l.length ≤ 9223372036854775807 := by
    obtain ⟨rows, h1, h2⟩ := hs
    have := h1.len.2.1
    have := h2.len
    omega
  have hu := Tryz.underlying53
  go_enter Tryz.func109, Tryz.ntmps109
  go_wp2_with fail
  go_loopw [5] (fun x wr => ∃ i : Nat, i ≤ l.length ∧ x = .int .i64 (i : Nat) ∧ Below w.heap.size w wr) (fun x _ => l.length - (intOf x).toNat)
  case atStart => exact ⟨0, Nat.zero_le _, rfl, Below.refl _ _⟩
  case round =>
    obtain ⟨i, hi, rfl, hb⟩ := hrel
    by_cases hlt : (i : Int) < l.length
    · have hlt' : i < l.length := by omega
      obtain ⟨ba, oa, rfl, hba, cs, hcl, hrd, hrg⟩ := SlRd.at (hs.keep last_rdSig hb) (by decide) hlt'
      obtain ⟨bb, ob, rfl, hbb, ds, hdl, hrd', hrg'⟩ := SlRd.at (ht.keep last_rdSig hb) (by decide) hlt'
      have c := fun z : Later wr => sameSig_any l[i] z.w cs.toArray ds.toArray (last_rdSig _ _ _ _ hrd z.below) (last_rdSig _ _ _ _ hrd' z.below)
      have hsz : (Tryz.prog.info? 53).map (·.size) = some cs.length := by rw [hcl]; exact sig_size
      have hsz' : (Tryz.prog.info? 53).map (·.size) = some ds.length := by rw [hdl]; exact sig_size
      have r1 : ∀ v, (∃ z : Later wr, v = z.w) → v.rangeAt ba (oa + i * 19) cs := by rintro _ ⟨z, rfl⟩; exact Later.range hrg z
      have r2 : ∀ v, (∃ z : Later wr, v = z.w) → v.rangeAt bb (ob + i * 19) ds := by rintro _ ⟨z, rfl⟩; exact Later.range hrg' z
      clear hrd hrd' hrg hrg' hcl hdl
      go_wp2_with fail
      refine wp_region_later0 (by kernel_rfl) (by kernel_rfl) ?_
      repeat (first | (refine wpQuiet_loadR r1 53 (.tmp 19) hu hsz ?_; simp only [Act.put, List.setIfInBounds_toArray, List.set_cons_zero, List.set_cons_succ]) | (refine wpQuiet_loadR r2 53 (.tmp 23) hu hsz' ?_; simp only [Act.put, List.setIfInBounds_toArray, List.set_cons_zero, List.set_cons_succ]) | go_big_quiet_step ((go_at_call 128; with_reducible exact Later.made (c _))))
      refine wpQuiet_nil ?_
      rintro _ ⟨z, rfl⟩
      have hb2 := bstep hb z.below (Nat.le_refl _)
      generalize z.w = w3 at *
      clear c r1 r2
      go_wp2_with fail
      go_roundw
      case rel => exact ⟨i + 1, by omega, by go_num, hb2⟩
      case measure => simp [intOf]; omega
    · go_wp2_with fail
      go_ret
      exact ⟨rfl, hb⟩

set_option maxRecDepth 100000 in
set_option maxHeartbeats 4000000 in
theorem sameMsg_any (x : MsgD) (w : World) (cs ds : Array Value) (h1 : rdMsg w x cs.toList) (h2 : rdMsg w x ds.toList) :
    Calls Tryz.prog 79 #[.agg cs, .agg ds] w fun e w' => e = .returned (.bool true) ∧ Below w.heap.size w w' := by
  obtain ⟨a, p, e1, hs⟩ := h1
  obtain ⟨b, q, e2, ht⟩ := h2
  obtain rfl := Array.toList_inj.1 e1
  obtain rfl := Array.toList_inj.1 e2
  clear e1 e2
  have hb2 : ∀ o1 o2, Below w.heap.size w ((w.alloc o1).alloc o2) := fun o1 o2 => ((Below.refl w.heap.size w).alloc (Nat.le_refl _) o1).alloc (by simp) o2
  have HC := Lib.hid (fun o1 o2 => sameSigs_any x.sigs x.sigs.length x.sigs.length rfl rfl a b p q _ (hs.keep last_rdSig (hb2 o1 o2)) (ht.keep last_rdSig (hb2 o1 o2)))
  have HB := Lib.hid hb2
  clear hs ht hb2
  generalize x.sigs.length = n at *
  unfold MsgD.cells
  go_enter Tryz.func79, Tryz.ntmps79
  go_wp2_with fail
  with_reducible refine (HC.out _ _).mono ?_
  rintro e w1 ⟨rfl, hb⟩
  have hb3 := bstep (HB.out _ _) hb (by simp)
  go_wp2_with fail
  go_ret
  exact ⟨rfl, hb3⟩

set_option maxRecDepth 100000 in
set_option maxHeartbeats 4000000 in
theorem sameMsgs_any (l : List MsgD) (n m : Nat) (hn : n = l.length) (hm : m = l.length) (a b : Option Addr) (p q : Nat) (w : World) (hs : SlRd w rdMsg 8 a p l) (ht : SlRd w rdMsg 8 b q l) :
    Calls Tryz.prog 47 #[.slice a n p, .slice b m q] w fun e w' => e = .returned (.bool true) ∧ Below w.heap.size w w' := by
  subst hm
  subst hn
  have hmx : l.length ≤ 9223372036854775807 := by
    obtain ⟨rows, h1, h2⟩ := hs
    have := h1.len.2.1
    have := h2.len
    omega
  have hu := Tryz.underlying46
  go_enter Tryz.func47, Tryz.ntmps47
  go_wp2_with fail
  go_loopw [5] (fun x wr => ∃ i : Nat, i ≤ l.length ∧ x = .int .i64 (i : Nat) ∧ Below w.heap.size w wr) (fun x _ => l.length - (intOf x).toNat)
  case atStart => exact ⟨0, Nat.zero_le _, rfl, Below.refl _ _⟩
  case round =>
    obtain ⟨i, hi, rfl, hb⟩ := hrel
    by_cases hlt : (i : Int) < l.length
    · have hlt' : i < l.length := by omega
      obtain ⟨ba, oa, rfl, hba, cs, hcl, hrd, hrg⟩ := SlRd.at (hs.keep last_rdMsg hb) (by decide) hlt'
      obtain ⟨bb, ob, rfl, hbb, ds, hdl, hrd', hrg'⟩ := SlRd.at (ht.keep last_rdMsg hb) (by decide) hlt'
      have c := fun z : Later wr => sameMsg_any l[i] z.w cs.toArray ds.toArray (last_rdMsg _ _ _ _ hrd z.below) (last_rdMsg _ _ _ _ hrd' z.below)
      have hsz : (Tryz.prog.info? 46).map (·.size) = some cs.length := by rw [hcl]; exact msg_size
      have hsz' : (Tryz.prog.info? 46).map (·.size) = some ds.length := by rw [hdl]; exact msg_size
      have r1 : ∀ v, (∃ z : Later wr, v = z.w) → v.rangeAt ba (oa + i * 8) cs := by rintro _ ⟨z, rfl⟩; exact Later.range hrg z
      have r2 : ∀ v, (∃ z : Later wr, v = z.w) → v.rangeAt bb (ob + i * 8) ds := by rintro _ ⟨z, rfl⟩; exact Later.range hrg' z
      clear hrd hrd' hrg hrg' hcl hdl
      go_wp2_with fail
      refine wp_region_later0 (by kernel_rfl) (by kernel_rfl) ?_
      repeat (first | (refine wpQuiet_loadR r1 46 (.tmp 19) hu hsz ?_; simp only [Act.put, List.setIfInBounds_toArray, List.set_cons_zero, List.set_cons_succ]) | (refine wpQuiet_loadR r2 46 (.tmp 23) hu hsz' ?_; simp only [Act.put, List.setIfInBounds_toArray, List.set_cons_zero, List.set_cons_succ]) | go_big_quiet_step ((go_at_call 79; with_reducible exact Later.made (c _))))
      refine wpQuiet_nil ?_
      rintro _ ⟨z, rfl⟩
      have hb2 := bstep hb z.below (Nat.le_refl _)
      generalize z.w = w3 at *
      clear c r1 r2
      go_wp2_with fail
      go_roundw
      case rel => exact ⟨i + 1, by omega, by go_num, hb2⟩
      case measure => simp [intOf]; omega
    · go_wp2_with fail
      go_ret
      exact ⟨rfl, hb⟩

set_option maxRecDepth 100000 in
set_option maxHeartbeats 4000000 in
theorem sameTab_any (x : TabD) (w : World) (cs ds : Array Value) (h1 : rdTab w x cs.toList) (h2 : rdTab w x ds.toList) :
    Calls Tryz.prog 80 #[.agg cs, .agg ds] w fun e w' => e = .returned (.bool true) ∧ Below w.heap.size w w' := by
  obtain ⟨a, p, e1, hs⟩ := h1
  obtain ⟨b, q, e2, ht⟩ := h2
  obtain rfl := Array.toList_inj.1 e1
  obtain rfl := Array.toList_inj.1 e2
  clear e1 e2
  have hb2 : ∀ o1 o2, Below w.heap.size w ((w.alloc o1).alloc o2) := fun o1 o2 => ((Below.refl w.heap.size w).alloc (Nat.le_refl _) o1).alloc (by simp) o2
  have HC := Lib.hid (fun o1 o2 => sameRw_any x.rows x.rows.length x.rows.length rfl rfl a b p q _ (hs.keep (hb2 o1 o2) (Nat.le_refl _)) (ht.keep (hb2 o1 o2) (Nat.le_refl _)))
  have HB := Lib.hid hb2
  clear hs ht hb2
  generalize x.rows.length = n at *
  unfold TabD.cells
  go_enter Tryz.func80, Tryz.ntmps80
  go_wp2_with fail
  with_reducible refine (HC.out _ _).mono ?_
  rintro e w1 ⟨rfl, hb⟩
  have hb3 := bstep (HB.out _ _) hb (by simp)
  go_wp2_with fail
  go_ret
  exact ⟨rfl, hb3⟩

set_option maxRecDepth 100000 in
set_option maxHeartbeats 4000000 in
theorem sameTabs_any (l : List TabD) (n m : Nat) (hn : n = l.length) (hm : m = l.length) (a b : Option Addr) (p q : Nat) (w : World) (hs : SlRd w rdTab 6 a p l) (ht : SlRd w rdTab 6 b q l) :
    Calls Tryz.prog 48 #[.slice a n p, .slice b m q] w fun e w' => e = .returned (.bool true) ∧ Below w.heap.size w w' := by
  subst hm
  subst hn
  have hmx : l.length ≤ 9223372036854775807 := by
    obtain ⟨rows, h1, h2⟩ := hs
    have := h1.len.2.1
    have := h2.len
    omega
  have hu := Tryz.underlying57
  go_enter Tryz.func48, Tryz.ntmps48
  go_wp2_with fail
  go_loopw [5] (fun x wr => ∃ i : Nat, i ≤ l.length ∧ x = .int .i64 (i : Nat) ∧ Below w.heap.size w wr) (fun x _ => l.length - (intOf x).toNat)
  case atStart => exact ⟨0, Nat.zero_le _, rfl, Below.refl _ _⟩
  case round =>
    obtain ⟨i, hi, rfl, hb⟩ := hrel
    by_cases hlt : (i : Int) < l.length
    · have hlt' : i < l.length := by omega
      obtain ⟨ba, oa, rfl, hba, cs, hcl, hrd, hrg⟩ := SlRd.at (hs.keep last_rdTab hb) (by decide) hlt'
      obtain ⟨bb, ob, rfl, hbb, ds, hdl, hrd', hrg'⟩ := SlRd.at (ht.keep last_rdTab hb) (by decide) hlt'
      have c := fun z : Later wr => sameTab_any l[i] z.w cs.toArray ds.toArray (last_rdTab _ _ _ _ hrd z.below) (last_rdTab _ _ _ _ hrd' z.below)
      have hsz : (Tryz.prog.info? 57).map (·.size) = some cs.length := by rw [hcl]; exact tab_size
      have hsz' : (Tryz.prog.info? 57).map (·.size) = some ds.length := by rw [hdl]; exact tab_size
      have r1 : ∀ v, (∃ z : Later wr, v = z.w) → v.rangeAt ba (oa + i * 6) cs := by rintro _ ⟨z, rfl⟩; exact Later.range hrg z
      have r2 : ∀ v, (∃ z : Later wr, v = z.w) → v.rangeAt bb (ob + i * 6) ds := by rintro _ ⟨z, rfl⟩; exact Later.range hrg' z
      clear hrd hrd' hrg hrg' hcl hdl
      go_wp2_with fail
      refine wp_region_later0 (by kernel_rfl) (by kernel_rfl) ?_
      repeat (first | (refine wpQuiet_loadR r1 57 (.tmp 19) hu hsz ?_; simp only [Act.put, List.setIfInBounds_toArray, List.set_cons_zero, List.set_cons_succ]) | (refine wpQuiet_loadR r2 57 (.tmp 23) hu hsz' ?_; simp only [Act.put, List.setIfInBounds_toArray, List.set_cons_zero, List.set_cons_succ]) | go_big_quiet_step ((go_at_call 80; with_reducible exact Later.made (c _))))
      refine wpQuiet_nil ?_
      rintro _ ⟨z, rfl⟩
      have hb2 := bstep hb z.below (Nat.le_refl _)
      generalize z.w = w3 at *
      clear c r1 r2
      go_wp2_with fail
      go_roundw
      case rel => exact ⟨i + 1, by omega, by go_num, hb2⟩
      case measure => simp [intOf]; omega
    · go_wp2_with fail
      go_ret
      exact ⟨rfl, hb⟩

set_option maxRecDepth 100000 in
set_option maxHeartbeats 4000000 in
theorem sameSta_any (x : StaD) (w : World) (cs ds : Array Value) (h1 : rdSta w x cs.toList) (h2 : rdSta w x ds.toList) :
    Calls Tryz.prog 49 #[.agg cs, .agg ds] w fun e w' => e = .returned (.bool true) ∧ Below w.heap.size w w' := by
  obtain ⟨a, p, e1, hs⟩ := h1
  obtain ⟨b, q, e2, ht⟩ := h2
  obtain rfl := Array.toList_inj.1 e1
  obtain rfl := Array.toList_inj.1 e2
  clear e1 e2
  have hb2 : ∀ o1 o2, Below w.heap.size w ((w.alloc o1).alloc o2) := fun o1 o2 => ((Below.refl w.heap.size w).alloc (Nat.le_refl _) o1).alloc (by simp) o2
  have HC := Lib.hid (fun o1 o2 => sameTx_any x.names x.names.length x.names.length rfl rfl a b p q _ (hs.keep (hb2 o1 o2) (Nat.le_refl _)) (ht.keep (hb2 o1 o2) (Nat.le_refl _)))
  have HB := Lib.hid hb2
  clear hs ht hb2
  generalize x.names.length = n at *
  unfold StaD.cells
  go_enter Tryz.func49, Tryz.ntmps49
  go_wp2_with fail
  with_reducible refine (HC.out _ _).mono ?_
  rintro e w1 ⟨rfl, hb⟩
  have hb3 := bstep (HB.out _ _) hb (by simp)
  go_wp2_with fail
  go_ret
  exact ⟨rfl, hb3⟩

set_option maxRecDepth 100000 in
set_option maxHeartbeats 4000000 in
theorem sameDb_any (x : DbD) (w : World) (cs ds : Array Value) (h1 : rdDb w x cs.toList) (h2 : rdDb w x ds.toList) :
    Calls Tryz.prog 22 #[.agg cs, .agg ds] w fun e w' => e = .returned (.bool true) ∧ Below w.heap.size w w' := by
  obtain ⟨a, p, b, q, c, r, e1, hs, hm, ht⟩ := h1
  obtain ⟨a', p', b', q', c', r', e2, hs', hm', ht'⟩ := h2
  obtain rfl := Array.toList_inj.1 e1
  obtain rfl := Array.toList_inj.1 e2
  clear e1 e2
  have hb2 : ∀ o1 o2, Below w.heap.size w ((w.alloc o1).alloc o2) := fun o1 o2 => ((Below.refl w.heap.size w).alloc (Nat.le_refl _) o1).alloc (by simp) o2
  have C1 := Lib.hid (fun W (hb : Below w.heap.size w W) => sameMsgs_any x.msgs x.msgs.length x.msgs.length rfl rfl b b' q q' W (hm.keep last_rdMsg hb) (hm'.keep last_rdMsg hb))
  have C2 := Lib.hid (fun W (hb : Below w.heap.size w W) => sameTabs_any x.tabs x.tabs.length x.tabs.length rfl rfl c c' r r' W (ht.keep last_rdTab hb) (ht'.keep last_rdTab hb))
  have C3 := Lib.hid (fun W (hb : Below w.heap.size w W) => sameSta_any x.sta W #[.int .i64 x.sta.line, .int .i64 x.sta.col, .slice a x.sta.names.length p] #[.int .i64 x.sta.line, .int .i64 x.sta.col, .slice a' x.sta.names.length p'] ⟨a, p, rfl, hs.keep hb (Nat.le_refl _)⟩ ⟨a', p', rfl, hs'.keep hb (Nat.le_refl _)⟩)
  have HB := Lib.hid hb2
  clear hs ht hm hs' ht' hm' hb2
  generalize x.msgs.length = n1 at *
  generalize x.tabs.length = n2 at *
  generalize x.sta.names.length = n3 at *
  unfold DbD.cells
  obtain ⟨zb, zb', -, hbz⟩ := box2 w #[.bool x.has, .int .i64 x.ver.line, .int .i64 x.ver.col, .string ⟨x.ver.text.toArray⟩, .int .i64 x.sta.line, .int .i64 x.sta.col, .slice a n3 p, .slice b n1 q, .slice c n2 r] #[.bool x.has, .int .i64 x.ver.line, .int .i64 x.ver.col, .string ⟨x.ver.text.toArray⟩, .int .i64 x.sta.line, .int .i64 x.sta.col, .slice a' n3 p', .slice b' n1 q', .slice c' n2 r'] 32 32
  have BZ := Lib.hid hbz
  have Z1 := Lib.hid zb
  have Z2 := Lib.hid zb'
  clear hbz zb zb' HB
  generalize x.ver.text = vt at *
  generalize x.ver.line = vl at *
  generalize x.ver.col = vc at *
  generalize x.sta.line = sl at *
  generalize x.sta.col = sc at *
  generalize x.has = hv at *
  go_enter Tryz.func22, Tryz.ntmps22
  go_wp2_with fail
  with_reducible refine (C1.out _ BZ.out).mono ?_
  rintro e w1 ⟨rfl, hb⟩
  have z1 := Z1.out.keep hb (Nat.le_refl _)
  have z2 := Z2.out.keep hb (Nat.le_refl _)
  have B1 := Lib.hid (bstep BZ.out hb (Nat.le_refl _))
  have f1 := z1.cell 8 _ rfl
  have f2 := z2.cell 8 _ rfl
  have Y1 := Lib.hid z1
  have Y2 := Lib.hid z2
  clear hb z1 z2
  go_wp2_with fail
  with_reducible refine (C2.out _ B1.out).mono ?_
  rintro e w2 ⟨rfl, hb⟩
  have z1 := Y1.out.keep hb (Nat.le_refl _)
  have z2 := Y2.out.keep hb (Nat.le_refl _)
  have B2 := Lib.hid (bstep B1.out hb (Nat.le_refl _))
  have k1 := z1.cell 4 _ rfl
  have k2 := z1.cell 5 _ rfl
  have k3 := z1.cell 6 _ rfl
  have l1 := z2.cell 4 _ rfl
  have l2 := z2.cell 5 _ rfl
  have l3 := z2.cell 6 _ rfl
  clear hb z1 z2 f1 f2
  go_wp2_with fail
  with_reducible refine (C3.out _ B2.out).mono ?_
  rintro e w3 ⟨rfl, hb⟩
  have B3 := Lib.hid (bstep B2.out hb (Nat.le_refl _))
  clear hb k1 k2 k3 l1 l2 l3
  go_wp2_with fail
  go_ret
  exact ⟨rfl, B3.out⟩
end Go.Proofs.YtlgbgobpdkilaaaGreatDoor
