/-
  busbarkit.Head at four bytes.
-/
import Derived.Test.YtampdbkafkcfdaaGreatDoorBarA
import Derived.Test.YtampdbkafkcfdaaGreatDoorPrnX
import Derived.Test.YtampdbkafkcfdaaGreatDoorVasA

namespace Go.Proofs.YtampdbkafkcfdaaGreatDoor
set_option linter.unusedVariables false
open Go.RowKit

theorem sxB_z (s : SigX) : sxB (zSig s) = sxB s := rfl
theorem sxT_z (s : SigX) : sxT (zSig s) = sxT s := rfl
theorem msgB_z (m : MsgD) : msgB (zMsg m) = msgB m := by
  show (numB m.id && (wordB m.name && (wordB m.sender && (sizB m.size && (decide ((m.sigs.map zSig).length ≤ 64) && (m.sigs.map zSig).all sxB))))) = msgB m
  rw [List.length_map, List.all_map]
  rfl
theorem msgL_z (m : MsgD) : msgL (zMsg m) = msgL m := by
  show [] :: msgH m :: (m.sigs.map zSig).map (fun s => 32 :: sxT s) = msgL m
  rw [List.map_map]
  rfl
theorem tabB_z (t : TabD) : tabB (zTab t) = tabB t := rfl
theorem tabT_z (t : TabD) : tabT (zTab t) = tabT t := rfl
theorem head_z (d : DbD) : dbHead (bareD d) = dbHead d := by
  unfold dbHead bareD
  cases d.has <;> rfl
theorem dbB_bare (d : DbD) : dbB (bareD d) = dbB d := by
  have e1 : (d.msgs.map zMsg).all msgB = d.msgs.all msgB := by rw [List.all_map]; congr 1; funext m; exact msgB_z m
  have e2 : (d.tabs.map zTab).all tabB = d.tabs.all tabB := by rw [List.all_map]; rfl
  have e3 : (!d.has || verB (bareD d).ver) = (!d.has || verB d.ver) := by unfold bareD; cases d.has <;> rfl
  show ((!d.has || verB (bareD d).ver) && (staB d.sta && (decide ((d.msgs.map zMsg).length ≤ 512) && ((d.msgs.map zMsg).all msgB && (d.tabs.map zTab).all tabB)))) = dbB d
  rw [e1, e2, e3, List.length_map]
  rfl
theorem dbT_bare (d : DbD) : dbT (bareD d) = dbT d := by
  have e1 : (d.msgs.map zMsg).flatMap (fun m => linesT (msgL m)) = d.msgs.flatMap (fun m => linesT (msgL m)) := by
    rw [List.flatMap_map]
    congr 1
    funext m
    exact congrArg linesT (msgL_z m)
  have e2 : (d.tabs.map zTab).flatMap (fun t => tabT t ++ [10]) = d.tabs.flatMap fun t => tabT t ++ [10] := by rw [List.flatMap_map]; rfl
  have e3 : (d.tabs.map zTab).isEmpty = d.tabs.isEmpty := by cases d.tabs <;> rfl
  show dbHead (bareD d) ++ ((d.msgs.map zMsg).flatMap (fun m => linesT (msgL m)) ++ ((if (d.tabs.map zTab).isEmpty then [] else [10]) ++ (d.tabs.map zTab).flatMap fun t => tabT t ++ [10])) = dbT d
  rw [head_z, e1, e2, e3]
  rfl
theorem filN_bare (d : DbD) : filN (bareD d) = filN d := by unfold filN; rw [dbB_bare, dbT_bare]
theorem filT_bare (d : DbD) : filT (bareD d) = filT d := by unfold filT; rw [filN_bare, dbT_bare]

/-! ### one message more -/
def cutD (d : DbD) (L : List MsgD) : DbD := { d with tabs := [], msgs := L }
theorem cutD_T (d : DbD) (L : List MsgD) : dbT (cutD d L) = dbHead d ++ L.flatMap (fun m => linesT (msgL m)) := by
  show dbHead d ++ (L.flatMap (fun m => linesT (msgL m)) ++ ([] ++ [])) = _
  rw [List.append_nil, List.append_nil]
theorem fil_zero {d : DbD} (h : filN d = 0) : dbB d = true ∧ (dbT d).length ≤ 1048576 := by
  cases hb : dbB d
  · rw [(fil_bad d hb).1] at h
    omega
  · refine ⟨rfl, ?_⟩
    by_cases hl : (dbT d).length ≤ 1048576
    · exact hl
    · rw [(fil_long d hb hl).1] at h
      omega
theorem take_len {α β : Type} (f : α → List β) (l : List α) (k : Nat) : ((l.take k).flatMap f).length ≤ (l.flatMap f).length := by
  have e : l.flatMap f = (l.take k).flatMap f ++ (l.drop k).flatMap f := by rw [← List.flatMap_append, List.take_append_drop]
  rw [e, List.length_append]
  omega
theorem cut_good {d : DbD} (h : filN d = 0) (k : Nat) : filN (cutD d (d.msgs.take k)) = 0 ∧ filT (cutD d (d.msgs.take k)) = dbHead d ++ (d.msgs.take k).flatMap (fun m => linesT (msgL m)) := by
  obtain ⟨h1, h2⟩ := fil_zero h
  have b : dbB (cutD d (d.msgs.take k)) = true := by
    rw [dbB_eq] at h1
    simp only [Bool.and_eq_true, decide_eq_true_eq] at h1
    obtain ⟨a1, a2, a3, a4⟩ := h1
    rw [dbB_eq]
    show (headB d && (decide ((d.msgs.take k).length ≤ 512) && ((d.msgs.take k).all msgB && true))) = true
    simp only [Bool.and_eq_true, decide_eq_true_eq, and_true]
    refine ⟨a1, by rw [List.length_take]; omega, ?_⟩
    rw [List.all_eq_true] at a3 ⊢
    exact fun m hm => a3 m (List.mem_of_mem_take hm)
  have l : (dbT (cutD d (d.msgs.take k))).length ≤ 1048576 := by
    rw [cutD_T, List.length_append]
    have := take_len (fun m => linesT (msgL m)) d.msgs k
    unfold dbT at h2
    rw [List.length_append, List.length_append] at h2
    omega
  rw [(fil_good _ b l).1, (fil_good _ b l).2, cutD_T]
  exact ⟨rfl, rfl⟩
theorem lines_mem {x : List UInt8} : ∀ {l : List (List UInt8)}, x ∈ l → x.length + 1 ≤ (linesT l).length
  | [], h => by simp at h
  | y :: l, h => by
    have e : (linesT (y :: l)).length = y.length + 1 + (linesT l).length := by unfold linesT; simp; omega
    rcases List.mem_cons.1 h with rfl | h
    · omega
    · have := lines_mem h
      omega
theorem more_last {d : DbD} (h : filN d = 0) {k : Nat} (hk : d.msgs.length = k + 1) :
    ∃ c r : List UInt8, filT (cutD d d.msgs) = filT (cutD d (d.msgs.take k)) ++ 10 :: c ∧ c = [66, 79, 95, 32] ++ r ∧ ∀ s ∈ (d.msgs[k]'(by omega)).sigs, sxB s = true ∧ (sxT s).length + 2 ≤ c.length := by
  have hk' : k < d.msgs.length := by omega
  have e : d.msgs = d.msgs.take k ++ [d.msgs[k]] := (List.take_append_drop k d.msgs).symm.trans (by rw [List.drop_eq_getElem_cons hk', List.drop_eq_nil_of_le (by omega)])
  have ea : filT (cutD d d.msgs) = dbHead d ++ d.msgs.flatMap (fun m => linesT (msgL m)) := by
    have := (cut_good h (k + 1)).2
    rwa [List.take_of_length_le (by omega)] at this
  have eb := (cut_good h k).2
  obtain ⟨m, hm⟩ : ∃ m, d.msgs[k] = m := ⟨_, rfl⟩
  rw [hm] at e ⊢
  have hmm : m ∈ d.msgs := by rw [← hm]; exact List.getElem_mem hk'
  obtain ⟨r, hr⟩ : ∃ r, msgH m ++ [10] ++ linesT (m.sigs.map fun s => 32 :: sxT s) = [66, 79, 95, 32] ++ r := ⟨_, by unfold msgH; rw [List.append_assoc, List.append_assoc]⟩
  refine ⟨msgH m ++ [10] ++ linesT (m.sigs.map fun s => 32 :: sxT s), r, ?_, hr, fun s hs => ⟨?_, ?_⟩⟩
  · rw [ea, eb, List.append_assoc]
    congr 1
    have e2 : d.msgs.flatMap (fun m => linesT (msgL m)) = (d.msgs.take k).flatMap (fun m => linesT (msgL m)) ++ linesT (msgL m) := by
      conv => lhs; rw [e]
      rw [List.flatMap_append]
      simp
    rw [e2]
    congr 1
  · have h1 := (fil_zero h).1
    rw [dbB_eq] at h1
    simp only [Bool.and_eq_true, decide_eq_true_eq, List.all_eq_true] at h1
    have h2 := h1.2.2.1 m hmm
    unfold msgB at h2
    simp only [Bool.and_eq_true, decide_eq_true_eq, List.all_eq_true] at h2
    exact h2.2.2.2.2.2 s hs
  · have := lines_mem (List.mem_map_of_mem (f := fun s : SigX => 32 :: sxT s) hs)
    simp only [List.length_append, List.length_cons] at this ⊢
    omega
end Go.Proofs.YtampdbkafkcfdaaGreatDoor

namespace Go.Proofs.YtampdbkafkcfdaaGreatDoor
set_option linter.unusedVariables false
open Go.RowKit

theorem sx_fine_z {s : SigX} (h : SxFine s) : SxFine (zSig s) := ⟨h.nm, h.un, h.rn, h.rt⟩
theorem msg_fine_z {m : MsgD} (h : MsgFine m) : MsgFine (zMsg m) :=
  ⟨h.nm, h.sn, by show (m.sigs.map zSig).length ≤ _; rw [List.length_map]; exact h.sn', fun s hs => by
    obtain ⟨s', h1, rfl⟩ := List.mem_map.1 (show s ∈ m.sigs.map zSig from hs)
    exact sx_fine_z (h.sg s' h1)⟩
theorem tab_fine_z {t : TabD} (h : TabFine t) : TabFine (zTab t) := ⟨h.sg, h.rn, h.rw⟩
theorem bare_fine {d : DbD} (h : DbFine d) : DbFine (bareD d) := by
  refine ⟨?_, h.nn, h.nm, ?_, fun m hm => ?_, ?_, fun t ht => ?_⟩
  · unfold bareD
    cases d.has
    · exact Nat.zero_le _
    · exact h.tx
  · show (d.msgs.map zMsg).length ≤ _
    rw [List.length_map]
    exact h.mn
  · obtain ⟨m', h1, rfl⟩ := List.mem_map.1 (show m ∈ d.msgs.map zMsg from hm)
    exact msg_fine_z (h.ms m' h1)
  · show (d.tabs.map zTab).length ≤ _
    rw [List.length_map]
    exact h.tn
  · obtain ⟨t', h1, rfl⟩ := List.mem_map.1 (show t ∈ d.tabs.map zTab from ht)
    exact tab_fine_z (h.tb t' h1)
theorem sig_wf_z {s : SigX} (h : SigWf s.d) : SigWf (zSig s).d := by
  obtain ⟨⟩ := h
  constructor <;> assumption
theorem msg_wf_z {m : MsgD} (h : MsgWf m) : MsgWf (zMsg m) :=
  ⟨h.id, h.sz, h.nm, h.sn, fun s hs => by
    obtain ⟨s', h1, rfl⟩ := List.mem_map.1 (show s ∈ m.sigs.map zSig from hs)
    exact ⟨sig_wf_z (h.sg s' h1).d, (h.sg s' h1).w⟩⟩
theorem bare_wf {d : DbD} (h : DbWf d) : DbWf (bareD d) := by
  refine ⟨?_, h.nm, fun m hm => ?_, fun t ht => ?_⟩
  · unfold bareD
    cases d.has
    · exact Nat.zero_le _
    · exact h.tx
  · obtain ⟨m', h1, rfl⟩ := List.mem_map.1 (show m ∈ d.msgs.map zMsg from hm)
    exact msg_wf_z (h.ms m' h1)
  · obtain ⟨t', h1, rfl⟩ := List.mem_map.1 (show t ∈ d.tabs.map zTab from ht)
    exact ⟨(h.tb t' h1).id, (h.tb t' h1).sg, (h.tb t' h1).rw⟩
theorem cut_fine {d : DbD} (h : DbFine d) (k : Nat) : DbFine (cutD d (d.msgs.take k)) :=
  ⟨h.tx, h.nn, h.nm, by show (d.msgs.take k).length ≤ _; rw [List.length_take]; have := h.mn; omega, fun m hm => h.ms m (List.mem_of_mem_take (show m ∈ d.msgs.take k from hm)), Nat.zero_le _, fun t ht => by cases (show t ∈ [] from ht)⟩
theorem cut_wf {d : DbD} (h : DbWf d) (k : Nat) : DbWf (cutD d (d.msgs.take k)) :=
  ⟨h.tx, h.nm, fun m hm => h.ms m (List.mem_of_mem_take (show m ∈ d.msgs.take k from hm)), fun t ht => by cases (show t ∈ [] from ht)⟩
end Go.Proofs.YtampdbkafkcfdaaGreatDoor

namespace Go.Proofs.YtampdbkafkcfdaaGreatDoor
set_option linter.unusedVariables false
open Go.RowKit

set_option maxHeartbeats 1000000 in
theorem head4_any (r : List UInt8) (hr : r.length ≤ 9000000000000000000) (w : World) :
    Calls Tryz.prog 12 #[.string ⟨([66, 79, 95, 32] ++ r).toArray⟩, .int .i64 4] w fun e w' => e = .returned (.string ⟨#[66, 79, 95, 32]⟩) ∧ w' = w := by
  obtain ⟨s, hs⟩ : ∃ s : ByteArray, s = ⟨([66, 79, 95, 32] ++ r).toArray⟩ := ⟨_, rfl⟩
  have hsz : s.size = r.length + 4 := by rw [hs]; simp [ByteArray.size]
  have hex : s.extract 0 4 = ⟨#[66, 79, 95, 32]⟩ := by
    rw [hs]
    apply ByteArray.ext
    simp [ByteArray.extract, ByteArray.copySlice]
  rw [← hs]
  by_cases h0 : r.length = 0
  · obtain rfl : r = [] := List.length_eq_zero_iff.1 h0
    have hz : s.size = 4 := hsz
    have HS := Lib.hid hs
    clear hs hsz h0 hex
    go_enter Tryz.func12, Tryz.ntmps12
    go_wp2_with fail
    go_ret
    exact ⟨by rw [HS.out]; rfl, rfl⟩
  · have h1 : (4 : Int) < s.size := by omega
    have h2 : ¬ ((s.size : Int) ≤ 4) := by omega
    have HE := Lib.hid hex
    clear hs hsz hex
    go_enter Tryz.func12, Tryz.ntmps12
    go_wp2_with fail
    go_ret
    exact ⟨by rw [HE.out]; rfl, rfl⟩
end Go.Proofs.YtampdbkafkcfdaaGreatDoor
