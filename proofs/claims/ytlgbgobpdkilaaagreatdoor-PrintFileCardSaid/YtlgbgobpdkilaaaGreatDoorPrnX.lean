/-
  Layer 7's reference: File: contract.
-/
import Derived.Test.YtlgbgobpdkilaaaGreatDoorPrnU
import Derived.Test.YtlgbgobpdkilaaaGreatDoorAppB
import Derived.Test.YtlgbgobpdkilaaaGreatDoorNodB

namespace Go.Proofs.YtlgbgobpdkilaaaGreatDoor
set_option linter.unusedVariables false
open Go.RowKit Go.Shelf

structure DbOK (d : DbD) : Prop where
  tx : d.ver.text.length ≤ 100000000
  nn : d.sta.names.length ≤ 4000000
  nm : ∀ r ∈ d.sta.names, r.length ≤ 100000000
  ms : ∀ m ∈ d.msgs, MsgOK m
  tb : ∀ t ∈ d.tabs, TabOK t
def headB (d : DbD) : Bool := (!d.has || verB d.ver) && staB d.sta
theorem names_len (l : List (List UInt8)) (hb : l.all wordB = true) : (l.flatMap fun x => 32 :: x).length ≤ 65 * l.length := by
  induction l with
  | nil => simp
  | cons x l ih =>
    rw [List.all_cons, Bool.and_eq_true] at hb
    have h1 := ih hb.2
    have h2 := word_len hb.1
    rw [List.flatMap_cons, List.length_append, List.length_cons, List.length_cons]
    omega

set_option maxRecDepth 100000 in
set_option maxHeartbeats 8000000 in
theorem rhead_any (x : DbD) (hx : DbOK x) (w : World) (cs : Array Value) (hrd : rdDb w x cs.toList) :
    Calls Tryz.prog 42 #[.agg cs] w fun e w' => Below w.heap.size w w' ∧ ∃ v, e = .returned (.tuple #[v, .bool (headB x)]) ∧ (headB x = true → Owns w' w.heap.size 5 1 enByte v (dbHead x)) := by
  obtain ⟨a, cap, b', cb', c', cc', ecs, hs, -, -⟩ := hrd
  obtain rfl : cs = x.cells (.slice a x.sta.names.length cap) (.slice b' x.msgs.length cb') (.slice c' x.tabs.length cc') := Array.toList_inj.1 ecs
  clear ecs
  obtain ⟨T, hT⟩ : ∃ T, T = headB x := ⟨_, rfl⟩
  rw [← hT]
  unfold headB verB staB at hT
  have cM := fun W => may3_any x.ver.text (by have := hx.tx; omega) W
  have HCQ := Lib.hid (show (mayN x.ver.text == 0) = true → ∀ W, Calls Tryz.prog 69 #[.string ⟨x.ver.text.toArray⟩] W fun e w' => e = .returned (.string ⟨(quoL x.ver.text).toArray⟩) ∧ Below W.heap.size W w' from fun h W => rquote_any x.ver.text (by have := may7_len x.ver.text h; omega) W)
  have HQL := Lib.hid (show (mayN x.ver.text == 0) = true → (quoL x.ver.text).length ≤ 10000 from fun h => quo7_len x.ver.text h)
  have HNM := Lib.hid hx.nm
  have hnn := hx.nn
  have HDH := Lib.hid (show dbHead x = (if x.has then ([86, 69, 82, 83, 73, 79, 78, 32] ++ quoL x.ver.text) ++ [10] else []) ++ (([66, 85, 95, 58] ++ x.sta.names.flatMap fun z => 32 :: z) ++ [10]) from rfl)
  have e0 : (x.cells (.slice a x.sta.names.length cap) (.slice b' x.msgs.length cb') (.slice c' x.tabs.length cc')).size = 9 := rfl
  have HC := Lib.hid (show x.cells (.slice a x.sta.names.length cap) (.slice b' x.msgs.length cb') (.slice c' x.tabs.length cc') = #[.bool x.has, .int .i64 x.ver.line, .int .i64 x.ver.col, .string ⟨x.ver.text.toArray⟩, .int .i64 x.sta.line, .int .i64 x.sta.col, .slice a x.sta.names.length cap, .slice b' x.msgs.length cb', .slice c' x.tabs.length cc'] from rfl)
  generalize x.cells (.slice a x.sta.names.length cap) (.slice b' x.msgs.length cb') (.slice c' x.tabs.length cc') = C at *
  have g0 : ∀ h, C[0]'h = .bool x.has := by rw [HC.out]; exact fun _ => rfl
  have g3 : ∀ h, C[3]'h = .string ⟨x.ver.text.toArray⟩ := by rw [HC.out]; exact fun _ => rfl
  have g6 : ∀ h, C[6]'h = .slice a x.sta.names.length cap := by rw [HC.out]; exact fun _ => rfl
  obtain ⟨zb, -, hbz⟩ := box1 w C 32
  have HBZ := Lib.hid hbz
  have ZB := Lib.hid zb
  have HS := Lib.hid hs
  have HT := Lib.hid hT
  clear hbz zb hs hT hx
  generalize mayN x.ver.text = mq at *
  generalize x.has = hv at *
  obtain ⟨W0, hW0⟩ : ∃ W, W = w.alloc (.cells C 32) := ⟨_, rfl⟩
  have hn0 := Owns.nil (α := UInt8) (w.alloc (.cells C 32)) (w.alloc (.cells C 32)).heap.size 5 1 enByte
  cases hv
  have HT2 := Lib.hid (show T = x.sta.names.all wordB by rw [HT.out]; rfl)
  have HD2 := Lib.hid (show dbHead x = [66, 85, 95, 58] ++ ((x.sta.names.flatMap fun z => 32 :: z) ++ [10]) by rw [HDH.out]; simp)
  clear hW0 HCQ HQL HDH HT cM
  go_enter Tryz.func42, Tryz.ntmps42
  go_wp2_with (at_builtin; go_loud (refine wpList_append_str [] [66, 85, 95, 58] hn0 (Below.refl _ _) (Nat.le_refl _) (by simp) ?_))
  intro v4 w4 hown4 hb4
  have hLL : ([66, 85, 95, 58] : List UInt8).length ≤ 20000 := by decide
  generalize ([66, 85, 95, 58] : List UInt8) = L0 at *
  rotate_left
  clear hW0
  go_enter Tryz.func42, Tryz.ntmps42
  go_wp2_with fail
  with_reducible refine (cM _).mono ?_
  rintro e w1 ⟨rfl, hb1⟩
  by_cases hmq : ¬ mq = 0
  · have HV := Lib.hid (show T = false by rw [HT.out, show (mq == 0) = false from beq_eq_false_iff_ne.2 hmq]; rfl)
    have hmq2 : ((mq : Int) != 0) = true := by rw [bne_iff_ne]; omega
    clear hmq
    go_wp2_with fail
    go_ret2
    exact ⟨bstep HBZ.out hb1 (Nat.le_refl _), _, congrArg (fun z => Ending.returned (.tuple #[.slice none 0 0, .bool z])) HV.out.symm, fun h => by rw [HV.out] at h; cases h⟩
  have hmq : mq = 0 := by omega
  subst hmq
  have HT2 := Lib.hid (show T = x.sta.names.all wordB by rw [HT.out]; rfl)
  have hql := HQL.out rfl
  have cQ := HCQ.out rfl
  have B1 := ZB.out.keep hb1 (Nat.le_refl _)
  rw [HC.out] at B1
  have f3 := B1.cell 3 _ rfl
  clear HT HQL HCQ B1 cM
  have HD2 := Lib.hid (show dbHead x = ((([86, 69, 82, 83, 73, 79, 78, 32] ++ quoL x.ver.text) ++ [10]) ++ [66, 85, 95, 58]) ++ ((x.sta.names.flatMap fun z => 32 :: z) ++ [10]) by rw [HDH.out]; simp)
  clear HDH
  generalize quoL x.ver.text = QU at *
  obtain ⟨Q0, eQ0, aQ0, nQ0, zQ0⟩ := strCat [86, 69, 82, 83, 73, 79, 78, 32] QU (by (try simp)) (by omega)
  have lQ0 : Q0.length ≤ 10010 := by rw [zQ0]; (try simp); omega
  obtain ⟨Q1, eQ1, aQ1, nQ1, zQ1⟩ := strCat Q0 [10] (by omega) (by (try simp))
  have lQ1 : Q1.length ≤ 10011 := by rw [zQ1]; (try simp); omega
  rw [← eQ0, ← eQ1] at HD2
  clear eQ0 eQ1 zQ0 zQ1
  simp only [List.length_cons, List.length_nil, Nat.reduceAdd] at nQ0 nQ1
  go_wp2_with fail
  with_reducible refine (cQ _).mono ?_
  rintro e w2 ⟨rfl, hb2⟩
  have hb12 := hb1.trans (hb2.mono hb1.size)
  have hn2 := (hn0.keep hb1 (Nat.le_refl _)).keep hb2 (Nat.le_refl _)
  clear cQ hb1 hb2 f3 hn0
  go_wp2_with (at_builtin; go_loud (refine wpList_append_str [] Q1 hn2 hb12 (Nat.le_refl _) (by simp; omega) ?_))
  intro v3 w3 hown3 hb3
  clear hn2 hb12
  go_wp2_with (at_builtin; go_loud (refine wpList_append_str Q1 [66, 85, 95, 58] hown3 hb3 (by simp) (by simp; omega) ?_))
  intro v4 w4 hown4 hb4
  clear hown3 hb3
  have hLL : (Q1 ++ [66, 85, 95, 58]).length ≤ 20000 := by rw [List.length_append]; (try simp); omega
  generalize Q1 ++ [66, 85, 95, 58] = L0 at *
  all_goals
    go_wp2_with fail
    go_loopw [4, 5] (fun v i wr => ∃ k : Nat, k ≤ x.sta.names.length ∧ i = .int .i64 (k : Nat) ∧ T = ((x.sta.names.drop k).all wordB) ∧ (x.sta.names.take k).all wordB = true ∧ Below (w.heap.size + 1) (w.alloc (.cells C 32)) wr ∧ Owns wr (w.heap.size + 1) 5 1 enByte v (L0 ++ (x.sta.names.take k).flatMap fun z => 32 :: z)) (fun _ i _ => x.sta.names.length - (intOf i).toNat)
    case atStart => exact ⟨0, Nat.zero_le _, rfl, by rw [HT2.out]; rfl, rfl, hb4, by simpa using hown4⟩
    case round =>
      clear hown4 hb4
      obtain ⟨k, hk, rfl, hsk, htk, hbel, hown⟩ := hrel
      have B6 := ZB.out.keep hbel (by simp)
      rw [HC.out] at B6
      have f6 := B6.cell 6 _ rfl
      have HBW := Lib.hid (HBZ.out.trans (hbel.mono (Nat.le_succ _)))
      clear B6
      have hsl := names_len (x.sta.names.take k) htk
      rw [List.length_take] at hsl
      by_cases hlt : (k : Int) < x.sta.names.length
      · have hlt' : k < x.sta.names.length := by omega
        obtain ⟨b, o, rfl, hb, hc0⟩ := SlX.at (HS.out.keep HBW.out (Nat.le_refl _)) hlt'
        have hok := HNM.out _ (List.getElem_mem hlt')
        have htk2 : (x.sta.names.take (k + 1)).all wordB = ((x.sta.names.take k).all wordB && wordB x.sta.names[k]) := by rw [List.take_succ_eq_append_getElem hlt', List.all_append]; simp
        have hln2 : ((x.sta.names.take (k + 1)).flatMap fun z => 32 :: z) = ((x.sta.names.take k).flatMap fun z => 32 :: z) ++ (32 :: x.sta.names[k]) := by
          rw [List.take_succ_eq_append_getElem hlt', List.flatMap_append]; simp
        rw [List.drop_eq_getElem_cons hlt', List.all_cons] at hsk
        generalize x.sta.names[k] = y at *
        have cw := fun W => rword_any y (by omega) W
        have HWL := Lib.hid (word_len (s := y))
        have HSK := Lib.hid hsk
        have HTK2 := Lib.hid htk2
        have HTK := Lib.hid htk
        have HLN := Lib.hid hln2
        clear hsk htk2 htk hln2
        generalize wordB y = yb at *
        go_wp2_with fail
        with_reducible refine (cw _).mono ?_
        rintro e w6 ⟨rfl, hw6⟩
        subst hw6
        clear cw
        cases yb
        · have HV := Lib.hid (show T = false by rw [HSK.out]; rfl)
          go_wp2_with fail
          go_ret2
          exact ⟨HBW.out, _, congrArg (fun z => Ending.returned (.tuple #[.slice none 0 0, .bool z])) HV.out.symm, fun h => by rw [HV.out] at h; cases h⟩
        · have HSK2 := Lib.hid (show T = (x.sta.names.drop (k + 1)).all wordB by rw [HSK.out]; rfl)
          have HT3 := Lib.hid (show (x.sta.names.take (k + 1)).all wordB = true by rw [HTK2.out, HTK.out]; rfl)
          have hyl := HWL.out (by first | exact trivial | rfl)
          obtain ⟨Q0, eQ0, aQ0, nQ0, zQ0⟩ := strCat [32] y (by (try simp)) (by omega)
          have lQ0 : Q0.length ≤ 100 := by rw [zQ0]; (try simp); omega
          have HQ := Lib.hid (show 32 :: y = Q0 by rw [eQ0]; rfl)
          clear eQ0 zQ0 HSK HTK2 HTK HWL
          simp only [List.length_cons, List.length_nil, Nat.reduceAdd] at nQ0
          go_wp2_with (at_builtin; go_loud (refine wpList_append_str (L0 ++ (x.sta.names.take k).flatMap fun z => 32 :: z) Q0 hown hbel (by simp) (by rw [List.length_append]; omega) ?_))
          intro v8 w8 hown8 hb8
          clear hown hbel
          go_wp2_with fail
          go_roundw
          case rel => exact ⟨k + 1, by omega, by go_num, HSK2.out, HT3.out, hb8, by rw [HLN.out, HQ.out]; simpa using hown8⟩
          case measure => simp [intOf]; omega
      · obtain rfl : k = x.sta.names.length := by omega
        rw [List.take_length] at hown
        have HV := Lib.hid (show T = true by rw [hsk, List.drop_length]; rfl)
        clear hsk htk
        have HD3 := Lib.hid (show dbHead x = (L0 ++ (x.sta.names.flatMap fun z => 32 :: z)) ++ [10] by rw [HD2.out]; simp)
        have hLl : (L0 ++ (x.sta.names.flatMap fun z => 32 :: z)).length ≤ 1000000000 := by rw [List.take_length, Nat.min_self] at hsl; rw [List.length_append]; omega
        generalize L0 ++ (x.sta.names.flatMap fun z => 32 :: z) = L at *
        go_wp2_with (at_builtin; go_loud (refine wpList_append_elem bytes_ty L (10 : UInt8) hown hbel (by simp) (by omega) ?_ (hone := by simp [enByte, Value.oneCell'])))
        intro v8 w9 hown8 hb8
        generalize L ++ [10] = L2 at *
        obtain ⟨a2, c2, rfl, -⟩ := hown8.shape
        go_wp2_with fail
        go_ret2
        exact ⟨HBZ.out.trans (hb8.mono (Nat.le_succ _)), .slice a2 L2.length c2, by rw [HV.out] <;> rfl, fun _ => by rw [HD3.out]; exact hown8.fromBase (Nat.le_succ _)⟩
end Go.Proofs.YtlgbgobpdkilaaaGreatDoor

namespace Go.Proofs.YtlgbgobpdkilaaaGreatDoor
set_option linter.unusedVariables false
open Go.RowKit Go.Shelf

theorem msgT_len (m : MsgD) (h : MsgOK m) (hb : msgB m = true) : (linesT (msgL m)).length ≤ 20000000000 := by
  unfold msgB at hb
  simp only [Bool.and_eq_true, decide_eq_true_eq] at hb
  obtain ⟨b1, b2, b3, b4, b5, b6⟩ := hb
  have h1 := sigs_len m.sigs h.sg b6
  have h2 := word_len b2
  have h3 := word_len b3
  have h4 := numT_len m.id m.wide b1
  have h5 := itoa7_len m.size h.sz
  have e : linesT (msgL m) = ([10] ++ (msgH m ++ [10])) ++ linesT (m.sigs.map fun s => 32 :: sxT s) := by unfold msgL; simp [linesT]
  rw [e]
  unfold msgH
  generalize (linesT (m.sigs.map fun s => 32 :: sxT s)) = Z at *
  generalize numT m.id m.wide = N at *
  generalize Lib.itoa m.size = I at *
  simp only [List.length_append, List.length_cons, List.length_nil]
  omega
theorem tabT_len (t : TabD) (h : TabOK t) (hb : tabB t = true) : (tabT t ++ [10]).length ≤ 3000000 := by
  unfold tabB at hb
  simp only [Bool.and_eq_true, decide_eq_true_eq] at hb
  obtain ⟨b1, b2, b3, b4⟩ := hb
  have h1 := rows_len t.rows (fun r hr => (h.rw r hr).1) b4
  have h2 := word_len b2
  have h4 := numT_len t.id t.wide b1
  unfold tabT
  generalize t.rows.flatMap rowT = Z at *
  generalize numT t.id t.wide = N at *
  simp only [List.length_append, List.length_cons, List.length_nil]
  omega
theorem msgs_len (l : List MsgD) (h : ∀ m ∈ l, MsgOK m) (hb : l.all msgB = true) : (l.flatMap fun m => linesT (msgL m)).length ≤ 20000000000 * l.length := by
  induction l with
  | nil => simp
  | cons x l ih =>
    rw [List.all_cons, Bool.and_eq_true] at hb
    have h1 := ih (fun y hy => h y (List.mem_cons_of_mem _ hy)) hb.2
    have h2 := msgT_len x (h x (by simp)) hb.1
    rw [List.flatMap_cons, List.length_append, List.length_cons]
    omega
theorem tabs_len (l : List TabD) (h : ∀ m ∈ l, TabOK m) (hb : l.all tabB = true) : (l.flatMap fun t => tabT t ++ [10]).length ≤ 3000000 * l.length := by
  induction l with
  | nil => simp
  | cons x l ih =>
    rw [List.all_cons, Bool.and_eq_true] at hb
    have h1 := ih (fun y hy => h y (List.mem_cons_of_mem _ hy)) hb.2
    have h2 := tabT_len x (h x (by simp)) hb.1
    rw [List.flatMap_cons, List.length_append, List.length_cons]
    omega
theorem head_len (d : DbD) (h : DbOK d) (hb : headB d = true) : (dbHead d).length ≤ 300000000 := by
  unfold headB at hb
  simp only [Bool.and_eq_true, Bool.or_eq_true, Bool.not_eq_true'] at hb
  obtain ⟨h1, h2⟩ := hb
  have h3 := names_len d.sta.names h2
  have h4 := h.nn
  unfold dbHead staT
  generalize (d.sta.names.flatMap fun z => 32 :: z) = Z at *
  cases hh : d.has
  · simp only [Bool.false_eq_true, if_false, List.nil_append, List.length_append, List.length_cons, List.length_nil]
    omega
  · have h5 := quo7_len d.ver.text (by rcases h1 with h1 | h1; · rw [hh] at h1; cases h1
                                       · exact h1)
    unfold verT
    generalize quoL d.ver.text = Q at *
    simp only [if_true, List.length_append, List.length_cons, List.length_nil]
    omega

def filN (d : DbD) : Nat := if dbB d = true then (if (dbT d).length ≤ 1048576 then 0 else 5) else 4
def filT (d : DbD) : List UInt8 := if filN d = 0 then dbT d else []
theorem dbB_eq (d : DbD) : dbB d = (headB d && (decide (d.msgs.length ≤ 512) && (d.msgs.all msgB && d.tabs.all tabB))) := by
  unfold dbB headB
  cases (!d.has || verB d.ver) <;> rfl
theorem fil_bad (d : DbD) (h : dbB d = false) : filN d = 4 ∧ filT d = [] := by
  have : filN d = 4 := by unfold filN; rw [h]; rfl
  exact ⟨this, by unfold filT; rw [this]; rfl⟩
theorem fil_long (d : DbD) (h : dbB d = true) (hl : ¬ (dbT d).length ≤ 1048576) : filN d = 5 ∧ filT d = [] := by
  have : filN d = 5 := by unfold filN; rw [if_pos h, if_neg hl]
  exact ⟨this, by unfold filT; rw [this]; rfl⟩
theorem fil_good (d : DbD) (h : dbB d = true) (hl : (dbT d).length ≤ 1048576) : filN d = 0 ∧ filT d = dbT d := by
  have : filN d = 0 := by unfold filN; rw [if_pos h, if_pos hl]
  exact ⟨this, by unfold filT; rw [if_pos this]⟩
theorem linesT_ne (m : MsgD) : 0 < (linesT (msgL m)).length := by unfold msgL; simp [linesT]
theorem Owns.some_of {α : Type} {w : World} {base : Nat} {e : TypeId} {size : Nat} {en : α → List Value} {v : Value} {xs : List α} (h : Owns w base e size en v xs) (hne : 0 < xs.length) : ∃ p cap, v = .slice (some p) xs.length cap ∧ SlOf w en size (some p) cap xs := by
  obtain ⟨g, cap, rfl, -⟩ := h.block hne
  exact ⟨_, _, rfl, h.sl.2⟩

set_option maxRecDepth 100000 in
set_option maxHeartbeats 16000000 in
theorem rfile_any (x : DbD) (hx : DbOK x) (hf : DbFit x) (w : World) (cs : Array Value) (hrd : rdDb w x cs.toList) :
    Calls Tryz.prog 19 #[.agg cs] w fun e w' => e = .returned (.tuple #[.string ⟨(filT x).toArray⟩, .int .i64 (filN x : Nat)]) ∧ Below w.heap.size w w' := by
  have cH := fun W h => rhead_any x hx W cs h
  have HRD := Lib.hid hrd
  obtain ⟨a, cap, b, cb, c, cc, ecs, hs, hm, ht⟩ := hrd
  obtain rfl : cs = x.cells (.slice a x.sta.names.length cap) (.slice b x.msgs.length cb) (.slice c x.tabs.length cc) := Array.toList_inj.1 ecs
  clear ecs hs
  have HM := Lib.hid hm
  have HTB := Lib.hid ht
  have HOK := Lib.hid hx
  have HFT := Lib.hid hf
  obtain ⟨V, hV⟩ : ∃ V, V = Value.tuple #[.string ⟨(filT x).toArray⟩, .int .i64 (filN x : Nat)] := ⟨_, rfl⟩
  rw [← hV]
  have HV := Lib.hid hV
  have HB := Lib.hid (dbB_eq x)
  have HL := Lib.hid (fun h => head_len x hx h)
  have HBAD := Lib.hid (show dbB x = false → V = .tuple #[.string ⟨#[]⟩, .int .i64 4] from fun h => by rw [hV, (fil_bad x h).1, (fil_bad x h).2]; rfl)
  have HLONG := Lib.hid (show dbB x = true → ¬ (dbT x).length ≤ 1048576 → V = .tuple #[.string ⟨#[]⟩, .int .i64 5] from fun h hl => by rw [hV, (fil_long x h hl).1, (fil_long x h hl).2]; rfl)
  have HGOOD := Lib.hid (show dbB x = true → (dbT x).length ≤ 1048576 → V = .tuple #[.string ⟨(dbT x).toArray⟩, .int .i64 0] from fun h hl => by rw [hV, (fil_good x h hl).1, (fil_good x h hl).2]; rfl)
  clear hV hm ht hx hf
  have e0 := DbD.cells_size x (.slice a x.sta.names.length cap) (.slice b x.msgs.length cb) (.slice c x.tabs.length cc)
  have k7 := Lib.hid (DbD.cells_7 x (.slice a x.sta.names.length cap) (.slice b x.msgs.length cb) (.slice c x.tabs.length cc))
  have k8 := Lib.hid (DbD.cells_8 x (.slice a x.sta.names.length cap) (.slice b x.msgs.length cb) (.slice c x.tabs.length cc))
  generalize x.cells (.slice a x.sta.names.length cap) (.slice b x.msgs.length cb) (.slice c x.tabs.length cc) = C at *
  obtain ⟨zb, -, hbz⟩ := box1 w C 32
  have HBZ := Lib.hid hbz
  have ZB := Lib.hid zb
  have hu := Tryz.underlying32
  have hrd0 := last_rdDb _ _ _ _ HRD.out hbz
  clear hbz
  generalize headB x = hB at *
  go_enter Tryz.func19, Tryz.ntmps19
  go_wp2_with (refine wpList_loadS zb 32 (.tmp 1) hu (by rw [e0]; exact db_size) ?_)
  with_reducible refine (cH _ hrd0).mono ?_
  rintro e w1 ⟨hb, v, rfl, ho⟩
  have B1 := ZB.out.keep hb (Nat.le_refl _)
  have HB1 := Lib.hid (bstep HBZ.out hb (Nat.le_refl _))
  have f7 := B1.cell 7 _ k7.out
  have f8 := B1.cell 8 _ k8.out
  have HW1 := Lib.hid (show Below (w.heap.size + 1) (w.alloc (.cells C 32)) w1 from hb.mono (by simp))
  clear cH hb zb hrd0 B1
  cases hB
  · have HV2 := Lib.hid (HBAD.out (by rw [HB.out]; rfl))
    clear ho
    go_wp2_with fail
    go_ret2
    exact ⟨congrArg Ending.returned HV2.out.symm, HB1.out⟩
  have hown := (ho rfl).fromBase (base' := w.heap.size + 1) (by simp)
  have hhl := HL.out rfl
  clear ho
  by_cases hl : (512 : Int) < x.msgs.length
  · have HV2 := Lib.hid (HBAD.out (by rw [HB.out, decide_eq_false (show ¬ x.msgs.length ≤ 512 by omega)]; rfl))
    clear hown
    go_wp2_with fail
    go_ret2
    exact ⟨congrArg Ending.returned HV2.out.symm, HB1.out⟩
  have HBM := Lib.hid (show dbB x = (x.msgs.all msgB && x.tabs.all tabB) by rw [HB.out, decide_eq_true (show x.msgs.length ≤ 512 by omega)]; rfl)
  have hl2 : x.msgs.length ≤ 512 := by omega
  have HDB : Hid (dbT x = dbHead x ++ (x.msgs.flatMap (fun m => linesT (msgL m)) ++ ((if x.tabs.isEmpty then [] else [10]) ++ x.tabs.flatMap fun t => tabT t ++ [10]))) := Lib.hid rfl
  clear HB HL
  generalize dbHead x = DH at *
  have HO1 := Lib.hid hown
  clear hown
  go_wp2_with fail
  clear f7 f8
  go_loopw [4, 6] (fun v i wr => ∃ k : Nat, k ≤ x.msgs.length ∧ i = .int .i64 (k : Nat) ∧ (x.msgs.take k).all msgB = true ∧ Below (w.heap.size + 1) (w.alloc (.cells C 32)) wr ∧ Owns wr (w.heap.size + 1) 5 1 enByte v (DH ++ (x.msgs.take k).flatMap fun m => linesT (msgL m))) (fun _ i _ => x.msgs.length - (intOf i).toNat)
  case atStart => exact ⟨0, Nat.zero_le _, rfl, rfl, HW1.out, by simpa using HO1.out⟩
  case round =>
    clear HO1 HB1 HW1
    obtain ⟨k, hk, rfl, htk, hbel, hown⟩ := hrel
    have HBW := Lib.hid (HBZ.out.trans (hbel.mono (Nat.le_succ _)))
    have bz := ZB.out.keep hbel (by simp)
    have f7 := bz.cell 7 _ k7.out
    have f8 := bz.cell 8 _ k8.out
    by_cases hlt : (k : Int) < x.msgs.length
    · have hlt' : k < x.msgs.length := by omega
      obtain ⟨bb, oo, rfl, hb, ds, hcl, hrd, hrg⟩ := SlRd.at (HM.out.keep last_rdMsg HBW.out) (by decide) hlt'
      have hmem := List.getElem_mem hlt'
      have hok := HOK.out.ms _ hmem
      have htk2 : (x.msgs.take (k + 1)).all msgB = ((x.msgs.take k).all msgB && msgB x.msgs[k]) := by rw [List.take_succ_eq_append_getElem hlt', List.all_append]; simp
      have hln2 : ((x.msgs.take (k + 1)).flatMap fun m => linesT (msgL m)) = ((x.msgs.take k).flatMap fun m => linesT (msgL m)) ++ linesT (msgL x.msgs[k]) := by
        rw [List.take_succ_eq_append_getElem hlt', List.flatMap_append]; simp
      have hsl := msgs_len (x.msgs.take k) (fun y hy => HOK.out.ms y (List.mem_of_mem_take hy)) htk
      rw [List.length_take] at hsl
      have HMF := Lib.hid (show msgB x.msgs[k] = false → dbB x = false from fun h => by
        rw [HBM.out, List.all_eq_false.2 ⟨_, hmem, by rw [h]; simp⟩]; rfl)
      have cm := rmessage_any x.msgs[k] hok wr ds.toArray hrd
      have HLM := Lib.hid (msgT_len x.msgs[k] hok)
      have hne := linesT_ne x.msgs[k]
      generalize x.msgs[k] = y at *
      generalize linesT (msgL y) = Y at *
      have hszm : (Tryz.prog.info? 46).map (·.size) = some ds.length := by rw [hcl]; exact msg_size
      have hum := Tryz.underlying46
      have HTK2 := Lib.hid htk2
      have HTK := Lib.hid htk
      have HLN := Lib.hid hln2
      clear hok hmem hln2 htk2 htk hrd f8 bz
      generalize msgB y = yb at *
      go_wp2_with (refine wpList_load_mid rfl 46 (.tmp 36) rfl bb (oo + k * 8) rfl ds _ hrg hum rfl hszm ?_)
      with_reducible refine cm.mono ?_
      rintro e w6 ⟨hb6, v6, rfl, ho6⟩
      have hbel6 : Below (w.heap.size + 1) (w.alloc (.cells C 32)) w6 := hbel.trans (hb6.mono (by have := hbel.size; simpa using this))
      have HB6 := Lib.hid (HBZ.out.trans (hbel6.mono (Nat.le_succ _)))
      have hown6 := hown.keep hb6 (Nat.le_refl _)
      clear cm hown hbel hrg f7 hb
      cases yb
      · have HV2 := Lib.hid (HBAD.out (HMF.out rfl))
        clear ho6 hown6 hbel6
        go_wp2_with fail
        go_ret2
        exact ⟨congrArg Ending.returned HV2.out.symm, HB6.out⟩
      · have hyl := HLM.out rfl
        obtain ⟨p, cp, rfl, hsy⟩ := (ho6 rfl).some_of hne
        have HT3 := Lib.hid (show (x.msgs.take (k + 1)).all msgB = true by rw [HTK2.out, HTK.out]; rfl)
        clear ho6 HMF HLM HTK2 HTK
        generalize hP : DH ++ ((x.msgs.take k).flatMap fun m => linesT (msgL m)) = PP at *
        have hPl : PP.length ≤ 15000000000000 := by rw [← hP, List.length_append]; omega
        have HPP := Lib.hid (show DH ++ ((x.msgs.take (k + 1)).flatMap fun m => linesT (msgL m)) = PP ++ Y by rw [HLN.out, ← hP, List.append_assoc])
        clear hP hsl HLN
        go_wp2_with (at_builtin; go_loud (refine wpList_append_sl bytes_ty PP Y enByte_len (fun y _ u hu => by simp only [enByte, List.mem_singleton] at hu; subst hu; rfl) hsy hown6 hbel6 (by simp) (by omega) ?_))
        intro v8 w8 hown8 hb8
        clear hown6 hbel6
        go_wp2_with fail
        go_roundw
        case rel => exact ⟨k + 1, by omega, by go_num, HT3.out, hb8, by rw [HPP.out]; exact hown8⟩
        case measure => simp [intOf]; omega
    · obtain rfl : k = x.msgs.length := by omega
      rw [List.take_length] at hown htk
      have HBT := Lib.hid (show dbB x = x.tabs.all tabB by rw [HBM.out, htk]; rfl)
      have hml := msgs_len x.msgs HOK.out.ms htk
      generalize hP : DH ++ (x.msgs.flatMap fun m => linesT (msgL m)) = PP at *
      have hPl : PP.length ≤ 15000000000000 := by rw [← hP, List.length_append]; omega
      have HDB2 := Lib.hid (show dbT x = PP ++ ((if x.tabs.isEmpty then [] else [10]) ++ x.tabs.flatMap fun t => tabT t ++ [10]) by rw [HDB.out, ← hP, List.append_assoc])
      have htn := HFT.out.tt
      have HO1 := Lib.hid hown
      have HB1 := Lib.hid hbel
      clear hP hml htk hown hbel bz HBM HDB hlt
      have hdl : PP.length ≤ 15000000000000 := hPl
      go_wp2_with fail
      clear f7 f8
      go_loopw [4, 9] (fun v i wr => ∃ k : Nat, k ≤ x.tabs.length ∧ i = .int .i64 (k : Nat) ∧ (x.tabs.take k).all tabB = true ∧ Below (w.heap.size + 1) (w.alloc (.cells C 32)) wr ∧ Owns wr (w.heap.size + 1) 5 1 enByte v (PP ++ ((if (x.tabs.take k).isEmpty then [] else [10]) ++ (x.tabs.take k).flatMap fun t => tabT t ++ [10]))) (fun _ i _ => x.tabs.length - (intOf i).toNat)
      case atStart => exact ⟨0, Nat.zero_le _, rfl, rfl, HB1.out, by simpa using HO1.out⟩
      case round =>
        clear HO1 HB1
        obtain ⟨k, hk, rfl, htk, hbel, hown⟩ := hrel
        have HBW := Lib.hid (HBZ.out.trans (hbel.mono (Nat.le_succ _)))
        have bz := ZB.out.keep hbel (by simp)
        have f8 := bz.cell 8 _ k8.out
        by_cases hlt : (k : Int) < x.tabs.length
        · have hlt' : k < x.tabs.length := by omega
          obtain ⟨bb, oo, rfl, hb, ds, hcl, hrd, hrg⟩ := SlRd.at (HTB.out.keep last_rdTab HBW.out) (by decide) hlt'
          have hmem := List.getElem_mem hlt'
          have hok := HOK.out.tb _ hmem
          have htk2 : (x.tabs.take (k + 1)).all tabB = ((x.tabs.take k).all tabB && tabB x.tabs[k]) := by rw [List.take_succ_eq_append_getElem hlt', List.all_append]; simp
          have hln2 : ((x.tabs.take (k + 1)).flatMap fun t => tabT t ++ [10]) = ((x.tabs.take k).flatMap fun t => tabT t ++ [10]) ++ (tabT x.tabs[k] ++ [10]) := by
            rw [List.take_succ_eq_append_getElem hlt', List.flatMap_append]; simp
          have hne1 : (x.tabs.take (k + 1)).isEmpty = false := by
            have h0 : 0 < (x.tabs.take (k + 1)).length := by rw [List.length_take]; omega
            cases h : x.tabs.take (k + 1) with
            | nil => rw [h] at h0; simp at h0
            | cons _ _ => rfl
          have hsl := tabs_len (x.tabs.take k) (fun y hy => HOK.out.tb y (List.mem_of_mem_take hy)) htk
          rw [List.length_take] at hsl
          have HMF := Lib.hid (show tabB x.tabs[k] = false → dbB x = false from fun h => by
            rw [HBT.out, List.all_eq_false.2 ⟨_, hmem, by rw [h]; simp⟩])
          have cm := rtable_any x.tabs[k] hok wr ds.toArray hrd
          have HLM := Lib.hid (tabT_len x.tabs[k] hok)
          have hne : 0 < (tabT x.tabs[k] ++ [10]).length := by simp
          generalize x.tabs[k] = y at *
          generalize tabT y ++ [10] = Y at *
          have hszm : (Tryz.prog.info? 57).map (·.size) = some ds.length := by rw [hcl]; exact tab_size
          have hum := Tryz.underlying57
          have HTK2 := Lib.hid htk2
          have HTK := Lib.hid htk
          have HNE := Lib.hid hne1
          have HLN := Lib.hid hln2
          clear hok hmem hln2 htk2 htk hrd bz hne1
          generalize tabB y = yb at *
          go_wp2_with (refine wpList_load_mid rfl 57 (.tmp 57) rfl bb (oo + k * 6) rfl ds _ hrg hum rfl hszm ?_)
          with_reducible refine cm.mono ?_
          rintro e w6 ⟨hb6, v6, rfl, ho6⟩
          have hbel6 : Below (w.heap.size + 1) (w.alloc (.cells C 32)) w6 := hbel.trans (hb6.mono (by have := hbel.size; simpa using this))
          have HB6 := Lib.hid (HBZ.out.trans (hbel6.mono (Nat.le_succ _)))
          have hown6 := hown.keep hb6 (Nat.le_refl _)
          have HLT := Lib.hid hown.lt
          clear cm hown hbel hrg f8 hb
          cases yb
          · have HV2 := Lib.hid (HBAD.out (HMF.out rfl))
            clear ho6 hown6 hbel6
            go_wp2_with fail
            go_ret2
            exact ⟨congrArg Ending.returned HV2.out.symm, HB6.out⟩
          · have hyl := HLM.out rfl
            obtain ⟨g, cp, rfl, -⟩ := (ho6 rfl).block hne
            have HO6 := Lib.hid (ho6 rfl)
            have hsy := (ho6 rfl).sl.2
            have HAP := Lib.hid (show Apart u4 (.slice (some ⟨g, 0, none⟩) Y.length cp) from fun q h1 h2 => by
              have e1 := (HLT.out q h1).2
              have e2 := (HO6.out.lt q h2).1
              omega)
            have HT3 := Lib.hid (show (x.tabs.take (k + 1)).all tabB = true by rw [HTK2.out, HTK.out]; rfl)
            clear ho6 HMF HLM HTK2 HTK
            by_cases hk0 : k = 0
            · subst hk0
              have HPP := Lib.hid (show PP ++ ((if (x.tabs.take (0 + 1)).isEmpty then [] else [10]) ++ (x.tabs.take (0 + 1)).flatMap fun t => tabT t ++ [10]) = (PP ++ [10]) ++ Y by rw [HLN.out, HNE.out]; simp)
              rw [show PP ++ ((if (x.tabs.take 0).isEmpty then [] else [10]) ++ (x.tabs.take 0).flatMap fun t => tabT t ++ [10]) = PP by simp] at hown6
              clear hsl HLN HNE
              clear hsy
              go_wp2_with (at_builtin; go_loud (refine wpList_append_elem3 bytes_ty PP (10 : UInt8) hown6 hbel6 (by simp) (by omega) ?_ (hone := by simp [enByte, Value.oneCell'])))
              rintro v7 w7 hown7 hb7 hg7 -
              have hsy7 := (HO6.out.other hg7 HAP.out).sl.2
              have hl7 : (PP ++ [10]).length ≤ 40000000000000 := by simp; omega
              clear hown6 hbel6 hg7
              generalize PP ++ [10] = P3 at *
              go_wp2_with (at_builtin; go_loud (refine wpList_append_sl bytes_ty P3 Y enByte_len (fun y _ u hu => by simp only [enByte, List.mem_singleton] at hu; subst hu; rfl) hsy7 hown7 hb7 (by simp) (by omega) ?_))
              intro v8 w8 hown8 hb8
              clear hown7 hb7
              go_wp2_with fail
              go_roundw
              case rel => exact ⟨0 + 1, by omega, by go_num, HT3.out, hb8, by rw [HPP.out]; exact hown8⟩
              case measure => simp [intOf]; omega
            · have hne0 : (x.tabs.take k).isEmpty = false := by
                have h0 : 0 < (x.tabs.take k).length := by rw [List.length_take]; omega
                cases h : x.tabs.take k with
                | nil => rw [h] at h0; simp at h0
                | cons _ _ => rfl
              have HPP := Lib.hid (show PP ++ ((if (x.tabs.take (k + 1)).isEmpty then [] else [10]) ++ (x.tabs.take (k + 1)).flatMap fun t => tabT t ++ [10]) = (PP ++ ((if (x.tabs.take k).isEmpty then [] else [10]) ++ (x.tabs.take k).flatMap fun t => tabT t ++ [10])) ++ Y by
                rw [HLN.out, HNE.out, hne0]
                simp)
              generalize hP : PP ++ ((if (x.tabs.take k).isEmpty then [] else [10]) ++ (x.tabs.take k).flatMap fun t => tabT t ++ [10]) = P2 at *
              have hi1 : ((if (x.tabs.take k).isEmpty then [] else [10]) : List UInt8).length ≤ 1 := by split <;> simp
              have hP2 : P2.length ≤ 40000000000000 := by rw [← hP, List.length_append, List.length_append]; omega
              clear hP hsl HLN HNE
              have hk0' : ¬ (k : Int) = 0 := by omega
              go_wp2_with (at_builtin; go_loud (refine wpList_append_sl bytes_ty P2 Y enByte_len (fun y _ u hu => by simp only [enByte, List.mem_singleton] at hu; subst hu; rfl) hsy hown6 hbel6 (by simp) (by omega) ?_))
              intro v8 w8 hown8 hb8
              clear hown6 hbel6
              go_wp2_with fail
              go_roundw
              case rel => exact ⟨k + 1, by omega, by go_num, HT3.out, hb8, by rw [HPP.out]; exact hown8⟩
              case measure => simp [intOf]; omega
        · obtain rfl : k = x.tabs.length := by omega
          rw [List.take_length] at hown htk
          have hsl := tabs_len x.tabs HOK.out.tb htk
          have HDD := Lib.hid (HBT.out.trans htk)
          rw [← HDB2.out] at hown
          have hi1 : ((if x.tabs.isEmpty then [] else [10]) : List UInt8).length ≤ 1 := by split <;> simp
          have hdl2 : (dbT x).length ≤ 40000000000000 := by rw [HDB2.out, List.length_append, List.length_append]; omega
          have HL2 := Lib.hid (HLONG.out HDD.out)
          have HG2 := Lib.hid (HGOOD.out HDD.out)
          clear hsl htk bz HBT HDB2 hlt
          generalize dbT x = L at *
          have hconv := owns_stringP (P := Tryz.prog) Tryz.underlying95 Tryz.underlying5 Tryz.underlying9 hown
          obtain ⟨a2, c2, rfl, -⟩ := hown.shape
          by_cases hl : (1048576 : Int) < L.length
          · have HV2 := Lib.hid (HL2.out (by omega))
            clear hconv
            go_wp2_with fail
            go_ret2
            exact ⟨congrArg Ending.returned HV2.out.symm, HBW.out⟩
          · have HV2 := Lib.hid (HG2.out (by omega))
            go_wp2_with fail
            go_ret2
            exact ⟨congrArg Ending.returned HV2.out.symm, HBW.out⟩
end Go.Proofs.YtlgbgobpdkilaaaGreatDoor
