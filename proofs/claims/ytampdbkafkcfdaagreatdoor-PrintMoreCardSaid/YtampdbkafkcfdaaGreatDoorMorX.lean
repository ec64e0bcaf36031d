/-
  The walk of PrintMore.
-/
import Derived.Test.YtampdbkafkcfdaaGreatDoorMorH
import Derived.Test.YtampdbkafkcfdaaGreatDoorOpenDb
import Derived.Test.YtampdbkafkcfdaaGreatDoorBarA

namespace Go.Proofs.YtampdbkafkcfdaaGreatDoor
set_option linter.unusedVariables false
open Go.RowKit

def abS : StaD := ⟨0, 0, [[65], [66]]⟩
theorem abV : pfilV [.sta abS] = .tuple #[.string ⟨#[66, 85, 95, 58, 32, 65, 32, 66, 10]⟩, .nilIface] := by
  rfl
set_option maxRecDepth 100000 in
set_option maxHeartbeats 4000000 in
theorem works7_any (w : World) (hT : TabsU w) (hp : PowTab w) :
    Calls Tryz.prog 5 #[] w fun e w' => e = .returned (.bool true) ∧ Below w.heap.size w w' := by
  go_enter Tryz.func5, Tryz.ntmps5
  go_wp2_with fail
  have hl : ∀ ty, SlRd ((w.alloc (.cells #[.string ⟨#[65]⟩, .string ⟨#[66]⟩] 9)).alloc (.cells #[.iface 28 (.agg #[.int .i64 0, .int .i64 0, .slice (some ⟨w.heap.size, 0, none⟩) 2 2])] ty)) rdNode 1 (some ⟨w.heap.size + 1, 0, none⟩) 1 [.sta abS] := fun ty => by
    have o1 := Owns.lit w w.heap.size enTx 1 (fun _ => rfl) [[65], [66]] #[.string ⟨#[65]⟩, .string ⟨#[66]⟩] 9 2 rfl rfl (by decide) (Nat.le_refl _)
    have o2 := Owns.lit (w.alloc (.cells #[.string ⟨#[65]⟩, .string ⟨#[66]⟩] 9)) w.heap.size Row.en 1 Row.en_len [(⟨[.iface 28 (.agg #[.int .i64 0, .int .i64 0, .slice (some ⟨w.heap.size, 0, none⟩) 2 2])], rfl⟩ : Row 1)] #[.iface 28 (.agg #[.int .i64 0, .int .i64 0, .slice (some ⟨w.heap.size, 0, none⟩) 2 2])] ty 1 rfl rfl (by decide) (by simp)
    have h2 := (Sl.of_owns o2).2
    rw [World.size_alloc] at h2
    exact ⟨[(⟨[.iface 28 (.agg #[.int .i64 0, .int .i64 0, .slice (some ⟨w.heap.size, 0, none⟩) 2 2])], rfl⟩ : Row 1)], h2, .cons ⟨#[.int .i64 0, .int .i64 0, .slice (some ⟨w.heap.size, 0, none⟩) 2 2], rfl, some ⟨w.heap.size, 0, none⟩, 2, rfl, (Sl.of_owns (o1.alloc _)).2⟩ .nil⟩
  with_reducible refine (pfile_any [.sta abS] (fun n hn => ?_) (fun n hn => ?_) (by decide) (fun _ => by decide) 1 rfl _ _ _ (hl _) (TabsU.keep hT ?_) (PowTab.keep hp ?_)).mono ?_
  · obtain rfl : n = .sta abS := by simpa using hn
    exact ⟨by decide, by decide⟩
  · obtain rfl : n = .sta abS := by simpa using hn
    show (2 : Nat) ≤ _
    decide
  · exact ((Below.refl w.heap.size w).alloc (Nat.le_refl _) _).alloc (by simp) _
  · exact ((Below.refl w.heap.size w).alloc (Nat.le_refl _) _).alloc (by simp) _
  · rintro e w1 ⟨rfl, hb⟩
    rw [abV]
    have hb2 := bstep (((Below.refl w.heap.size w).alloc (Nat.le_refl _) _).alloc (by simp) _) hb (Nat.le_refl _)
    clear hb hl
    go_wp2_with fail
    go_ret
    exact ⟨rfl, hb2⟩
end Go.Proofs.YtampdbkafkcfdaaGreatDoor

namespace Go.Proofs.YtampdbkafkcfdaaGreatDoor
set_option linter.unusedVariables false
open Go.RowKit

theorem OwnRd.weak {α : Type} {rd rd' : World → α → List Value → Prop} {w : World} {base : Nat} {e : TypeId} {size : Nat} {v : Value} {xs : List α} (h : OwnRd w base e rd size v xs) (hm : ∀ x cs, rd w x cs → rd' w x cs) : OwnRd w base e rd' size v xs := by
  obtain ⟨rows, h1, h2⟩ := h
  exact ⟨rows, h1, h2.mono fun x r hr => hm x _ hr⟩
/-- a list of parts written: List and File of a document that is fine -/
theorem file_parts (y : DbD) (hf : DbFine y) (hw : DbWf y) : ∀ n, n = (nodL y).length → ∀ a cap W, SlRd W rdNode 1 a cap (nodL y) → TabsU W → PowTab W →
    Calls Tryz.prog 7 #[.slice a n cap] W fun e w' => e = .returned (.tuple #[.string ⟨(filT y).toArray⟩, if filN y = 0 then .nilIface else errV (filN y)]) ∧ Below W.heap.size W w' := fun n hn a cap W h1 h2 h3 => by
  rw [← pfil_nod]
  exact pfile_any (nodL y) (nod_ok hf hw).1 (nod_ok hf hw).2.1 (nod_ok hf hw).2.2 (fun h => by rw [filB_nod] at h; rw [filL_nod]; exact db_len (hf.ok hw) hf.fit h) n hn a cap W h1 h2 h3
end Go.Proofs.YtampdbkafkcfdaaGreatDoor

namespace Go.Proofs.YtampdbkafkcfdaaGreatDoor
set_option linter.unusedVariables false
open Go.RowKit

theorem fdSigN_fd {B : Nat} {w : World} {x : SigX} {l : List Value} (h : fdSigN B w x l) : fdSig w x l := by
  obtain ⟨v, e, ho⟩ := h
  exact ⟨v, e, ho.fromBase (Nat.zero_le _)⟩
theorem fdMsgN_fd {B : Nat} {w : World} {x : MsgD} {l : List Value} (h : fdMsgN B w x l) : fdMsg w x l := by
  obtain ⟨v, e, ho⟩ := h
  exact ⟨v, e, (ho.fromBase (Nat.zero_le _)).weak fun _ _ => fdSigN_fd⟩
theorem fdTabN_fd {B : Nat} {w : World} {x : TabD} {l : List Value} (h : fdTabN B w x l) : fdTab w x l := by
  obtain ⟨v, e, ho⟩ := h
  exact ⟨v, e, ho.fromBase (Nat.zero_le _)⟩
theorem fdDbN_fd {B : Nat} {w : World} {x : DbD} {l : List Value} (h : fdDbN B w x l) : fdDb w x l := by
  obtain ⟨u, v, z, e, h1, h2, h3⟩ := h
  exact ⟨u, v, z, e, h1.fromBase (Nat.zero_le _), (h2.fromBase (Nat.zero_le _)).weak fun _ _ => fdMsgN_fd, (h3.fromBase (Nat.zero_le _)).weak fun _ _ => fdTabN_fd⟩
theorem SlRd.take {α : Type} {rd : World → α → List Value → Prop} {w : World} {size : Nat} {a : Option Addr} {cap : Nat} {xs : List α} (h : SlRd w rd size a cap xs) (k : Nat) : SlRd w rd size a cap (xs.take k) := by
  obtain ⟨rows, h1, h2⟩ := h
  exact ⟨rows.take k, SlOf.pre (ys := rows.drop k) (by rw [List.take_append_drop]; exact h1) Row.en_len, h2.take k⟩

/-- the copy in its box, cut at n messages -/
structure MorAt (B k7 : Nat) (d : DbD) (n : Nat) (u : Value) (a : Option Addr) (c : Nat) (w : World) : Prop where
  b7 : w.heap[k7]? = some (.cells (d.cells u (.slice a n c) (.slice none 0 0)) 32)
  nn : Owns w B 9 1 enTx u d.sta.names
  mm : OwnRd w B 46 (fdMsgN B) 8 (.slice a d.msgs.length c) d.msgs
theorem MorAt.keep {B k7 : Nat} {d : DbD} {n : Nat} {u : Value} {a : Option Addr} {c : Nat} {w w' : World} (h : MorAt B k7 d n u a c w) (hb : Below w.heap.size w w') : MorAt B k7 d n u a c w' :=
  ⟨Blk.kindAt h.b7 hb, h.nn.keep hb (Nat.le_refl _), h.mm.keep (last_fdMsgN _) hb⟩
theorem MorAt.rd {B k7 : Nat} {d : DbD} {n : Nat} {u : Value} {a : Option Addr} {c : Nat} {w : World} (h : MorAt B k7 d n u a c w) (hn : n ≤ d.msgs.length) :
    rdDb w (cutD d (d.msgs.take n)) (d.cells u (.slice a n c) (.slice none 0 0)).toList := by
  obtain ⟨na, nc, rfl, hs⟩ := h.nn.shape
  obtain ⟨ma, mc, he, hm⟩ := h.mm.shape
  simp only [Value.slice.injEq, true_and] at he
  obtain ⟨rfl, rfl⟩ := he
  refine ⟨na, nc, a, c, none, 0, ?_, hs, (hm.weak fun _ _ hx => fd_msg (fdMsgN_fd hx)).take n, SlRd.nil _ _ _⟩
  have e : (cutD d (d.msgs.take n)).msgs.length = n := by show (d.msgs.take n).length = n; rw [List.length_take]; omega
  rw [e]
  rfl
theorem MorAt.one {B k7 : Nat} {d : DbD} {n : Nat} {u : Value} {a : Option Addr} {c : Nat} {w : World} (h : MorAt B k7 d n u a c w) : (d.cells u (.slice a n c) (.slice none 0 0)).all (·.oneCell') = true := by
  obtain ⟨na, nc, rfl, hs⟩ := h.nn.shape
  exact DbD.cells_one _ _ _ _ _ _ _ _ _ _
/-- the copy boxed, its tables struck -/
theorem MorAt.start {B : Nat} {d : DbD} {w' : World} {k7 : Nat} {u z : Value} {a : Option Addr} {c : Nat} (h1 : Owns w' B 9 1 enTx u d.sta.names) (h2 : OwnRd w' B 46 (fdMsgN B) 8 (.slice a d.msgs.length c) d.msgs)
    (hk : w'.heap[k7]? = some (.cells (d.cells u (.slice a d.msgs.length c) z) 32)) : MorAt B k7 d d.msgs.length u a c (w'.setCell ⟨k7, 8, none⟩ (.slice none 0 0)) :=
  ⟨setCell_at hk 8 (.slice none 0 0), h1.setAt hk (by decide) 8 _, h2.setAt hk (by decide) (apt_fdMsgN B (by decide) (by decide)) 8 _⟩
/-- one message fewer -/
theorem MorAt.cut {B k7 : Nat} {d : DbD} {n : Nat} {u : Value} {a : Option Addr} {c : Nat} {w : World} (h : MorAt B k7 d n u a c w) (m : Nat) : MorAt B k7 d m u a c (w.setCell ⟨k7, 7, none⟩ (.slice a m c)) :=
  ⟨setCell_at h.b7 7 (.slice a m c), h.nn.setAt h.b7 (by decide) 7 _, h.mm.setAt h.b7 (by decide) (apt_fdMsgN B (by decide) (by decide)) 7 _⟩
end Go.Proofs.YtampdbkafkcfdaaGreatDoor

namespace Go.Proofs.YtampdbkafkcfdaaGreatDoor
set_option linter.unusedVariables false
open Go.RowKit Go.Shelf

theorem num_fil (d : DbD) (w : World) : Calls Tryz.prog 10 #[if filN d = 0 then .nilIface else errV (filN d)] w fun e w' => e = .returned (.int .i64 (filN d : Nat)) ∧ w' = w := by
  cases h : dbB d
  · rw [(fil_bad d h).1]
    simpa [errV] using num_errno 4 (by omega) (by omega) w
  · by_cases hl : (dbT d).length ≤ 1048576
    · rw [(fil_good d h hl).1]
      simpa using num_nil w
    · rw [(fil_long d h hl).1]
      simpa [errV] using num_errno 5 (by omega) (by omega) w
theorem more_cut (X c : List UInt8) : (⟨(X ++ 10 :: c).toArray⟩ : ByteArray).extract 0 X.length = ⟨X.toArray⟩ ∧ (⟨(X ++ 10 :: c).toArray⟩ : ByteArray).extract (X.length + 1) (X ++ 10 :: c).length = ⟨c.toArray⟩ := by
  refine ⟨?_, ?_⟩
  · rw [extract_midR _ 0 X.length (by simp)]
    simp
  · rw [extract_midR _ _ _ (Nat.le_refl _)]
    have e : (X ++ 10 :: c).drop (X.length + 1) = c := by simp
    rw [e, List.take_of_length_le (by simp; omega)]
theorem sig_ok_of {s : SigX} (h : SxFine s) (hw : SxWf s) : SigOK s.d :=
  ⟨hw.d.br, hw.d.st, hw.d.sz, hw.d.s1, hw.d.s2, hw.d.o1, hw.d.o2, hw.d.m1, hw.d.m2, hw.d.x1, hw.d.x2, by have := h.nm; omega, by have := h.un; omega, hw.d.ro⟩

theorem fil_len {d : DbD} (h : filN d = 0) : (filT d).length ≤ 1048576 := by
  obtain ⟨h1, h2⟩ := fil_zero h
  rw [(fil_good d h1 h2).2]
  exact h2

set_option maxRecDepth 100000 in
set_option maxHeartbeats 16000000 in
theorem printmore_any (x : DbD) (hw : DbWf x) (w : World) (cs : Array Value) (hrd : rdDb w x cs.toList) (hT : TabsU w) (hp : PowTab w) :
    Calls Tryz.prog 3 #[.agg cs] w fun e w' => e = .returned (.bool true) ∧ Below w.heap.size w w' := by
  have hcs : cs.size = 9 := by obtain ⟨a, p, b, q, c, r, e, -⟩ := hrd; rw [Array.toList_inj.1 e]; rfl
  have HRD := Lib.hid (fun W (h : Below w.heap.size w W) => last_rdDb _ _ _ _ hrd h)
  have cV := fun W h => vast_any x hw W cs h
  have CL := Lib.hid (fun (hf : DbFine x) W h => nlist_any x hf.fit W cs h)
  have CP := Lib.hid (fun (hf : DbFine x) => file_parts x hf hw)
  have CB := Lib.hid (fun (hf : DbFine x) W h => bare_any x hf.fit W cs h)
  have CLB := Lib.hid (fun (hf : DbFine x) W C h => nlist_any (bareD x) (bare_fine hf).fit W C h)
  have CPB := Lib.hid (fun (hf : DbFine x) => file_parts (bareD x) (bare_fine hf) (bare_wf hw))
  have CC := Lib.hid (fun (hf : DbFine x) W h hB => copyDb_anyN x hf.fit W cs h w.heap.size hB)
  have CN := Lib.hid (num_fil x)
  have HTU := Lib.hid (fun W (h : Below w.heap.size w W) => TabsU.keep hT h)
  have HPT := Lib.hid (fun W (h : Below w.heap.size w W) => PowTab.keep hp h)
  obtain ⟨zb, -, hbz⟩ := box1 w cs 32
  have hu := Tryz.underlying32
  have HB0 := Lib.hid hbz
  have ZB := Lib.hid zb
  have HW := Lib.hid hw
  have cW := works7_any _ (HTU.out _ hbz) (HPT.out _ hbz)
  clear hrd hw hT hp hbz
  go_enter Tryz.func3, Tryz.ntmps3
  go_wp2_with fail
  with_reducible refine cW.mono ?_
  rintro e w0 ⟨rfl, hb⟩
  have zb := ZB.out.keep hb (Nat.le_refl _)
  have HBA := Lib.hid (bstep HB0.out hb (Nat.le_refl _))
  have ZBA := Lib.hid zb
  clear hb cW HB0 ZB
  go_wp2_with (refine wpList_loadS zb 32 (.tmp 1) hu (by rw [hcs]; exact db_size) ?_)
  with_reducible refine (cV _ (HRD.out _ HBA.out)).mono ?_
  rintro e w1 ⟨hb, hv⟩
  have zb := ZBA.out.keep hb (Nat.le_refl _)
  have HB1 := Lib.hid (bstep HBA.out hb (Nat.le_refl _))
  have ZB1 := Lib.hid zb
  clear hb cV ZBA HBA
  rcases hv with rfl | ⟨rfl, hf⟩
  · go_wp2_with fail
    go_ret
    exact ⟨rfl, HB1.out⟩
  have cL := CL.out hf
  have cP := CP.out hf
  have cB := CB.out hf
  have cLB := CLB.out hf
  have cPB := CPB.out hf
  have cC := CC.out hf
  rw [filT_bare, filN_bare] at cPB
  obtain ⟨E, hE⟩ : ∃ E, E = (if filN x = 0 then Value.nilIface else errV (filN x)) := ⟨_, rfl⟩
  have cN := CN.out
  rw [← hE] at cP cPB cN
  have HF := Lib.hid hf
  have HE := Lib.hid hE
  clear hf CL CP CB CLB CPB CC CN hE
  have HMN := Lib.hid (fun h => @more_last x h)
  have HCG := Lib.hid (fun h => @cut_good x h)
  obtain ⟨NN, hNN⟩ : ∃ NN, NN = filN x := ⟨_, rfl⟩
  rw [← hNN] at HE HMN HCG cN
  obtain ⟨TX, hTX⟩ : ∃ TX, TX = filT x := ⟨_, rfl⟩
  rw [← hTX] at cP cPB
  clear hTX hNN
  go_wp2_with (refine wpList_loadS zb 32 (.tmp 1) hu (by rw [hcs]; exact db_size) ?_)
  with_reducible refine (cL _ (HRD.out _ HB1.out)).mono ?_
  rintro e w3 ⟨vl, rfl, hol, hb⟩
  have HB3 := Lib.hid (bstep HB1.out hb (Nat.le_refl _))
  have ZB3 := Lib.hid (ZB1.out.keep hb (Nat.le_refl _))
  obtain ⟨al, cl, rfl, hsl⟩ := hol.shape
  have HSL := Lib.hid (hsl.weak fun _ _ => fd_node)
  clear hb cL ZB1 hol hsl zb
  have cP1 := cP _ rfl al cl w3 HSL.out (HTU.out _ HB3.out) (HPT.out _ HB3.out)
  clear cP HSL
  generalize (nodL x).length = nl at *
  go_wp2_with fail
  with_reducible refine cP1.mono ?_
  rintro e w4 ⟨rfl, hb⟩
  have HB4 := Lib.hid (bstep HB3.out hb (Nat.le_refl _))
  have zb := ZB3.out.keep hb (Nat.le_refl _)
  have ZB4 := Lib.hid zb
  clear hb cP1 ZB3
  go_wp2_with (refine wpList_loadS zb 32 (.tmp 1) hu (by rw [hcs]; exact db_size) ?_)
  with_reducible refine (cB _ (HRD.out _ HB4.out)).mono ?_
  rintro e w5 ⟨C5, rfl, hfd, hb⟩
  have HB5 := Lib.hid (bstep HB4.out hb (Nat.le_refl _))
  have ZB5 := Lib.hid (ZB4.out.keep hb (Nat.le_refl _))
  have cLB1 := cLB _ C5 (fd_db (fdDbN_fd hfd))
  clear hb cB ZB4 hfd zb cLB
  go_wp2_with fail
  with_reducible refine cLB1.mono ?_
  rintro e w6 ⟨vl, rfl, hol, hb⟩
  have HB6 := Lib.hid (bstep HB5.out hb (Nat.le_refl _))
  have ZB6 := Lib.hid (ZB5.out.keep hb (Nat.le_refl _))
  obtain ⟨bl, dl, rfl, hsl⟩ := hol.shape
  have HSL := Lib.hid (hsl.weak fun _ _ => fd_node)
  clear hb cLB1 ZB5 hol hsl
  have cP1 := cPB _ rfl bl dl w6 HSL.out (HTU.out _ HB6.out) (HPT.out _ HB6.out)
  clear cPB HSL
  generalize (nodL (bareD x)).length = nb at *
  go_wp2_with fail
  with_reducible refine cP1.mono ?_
  rintro e w7 ⟨rfl, hb⟩
  have HB7 := Lib.hid (bstep HB6.out hb (Nat.le_refl _))
  have ZB7 := Lib.hid (ZB6.out.keep hb (Nat.le_refl _))
  clear hb cP1 ZB6
  go_wp2_with fail
  with_reducible refine (cN _).mono ?_
  rintro e w7' ⟨rfl, rfl⟩
  go_wp2_with fail
  with_reducible refine (cN _).mono ?_
  rintro e w7'' ⟨rfl, rfl⟩
  have zb := ZB7.out
  have cC1 := cC _ (HRD.out _ HB7.out) HB7.out.size
  clear cN cC
  go_wp2_with (refine wpList_loadS zb 32 (.tmp 1) hu (by rw [hcs]; exact db_size) ?_)
  with_reducible refine cC1.mono ?_
  rintro e w8 ⟨C, rfl, hfd, hb⟩
  have HB8 := Lib.hid (bstep HB7.out hb (Nat.le_refl _))
  obtain ⟨u, v, z, eC, h1, h2, h3⟩ := hfd
  obtain rfl : C = x.cells u v z := Array.toList_inj.1 eC
  obtain ⟨ma, mc, rfl, hml⟩ := h2.shape
  have q0 := DbD.cells_size x u (.slice ma x.msgs.length mc) z
  have q1 : (x.cells u (.slice ma x.msgs.length mc) z).all (·.oneCell') = true := by
    obtain ⟨a4, c4, rfl, -⟩ := h1.shape
    obtain ⟨a6, c6, rfl, -⟩ := h3.shape
    exact DbD.cells_one _ _ _ _ _ _ _ _ _ _
  obtain ⟨zt, hzt⟩ : ∃ zt, z = zt := ⟨_, rfl⟩
  have H1 := Lib.hid h1
  have H2 := Lib.hid h2
  have hkB : w.heap.size ≤ w8.heap.size := HB8.out.size
  clear hb cC1 eC h1 h2 h3 zb hzt
  go_upto_region 10 with (refine wpList_newS (Z := zeroDb) (cs := x.cells u (.slice ma x.msgs.length mc) z) 32 (.tmp 7) (.tmp 43) (by rw [q0]; exact db_zero) (by rw [q0]; rfl) q1 ?_)
  have b1 : Below w8.heap.size w8 (w8.alloc (.cells (x.cells u (.slice ma x.msgs.length mc) z) 32)) := (Below.refl _ _).alloc (Nat.le_refl _) _
  have k7 := heap_alloc_new w8 (.cells (x.cells u (.slice ma x.msgs.length mc) z) 32)
  have A9 := Lib.hid (MorAt.start (H1.out.keep b1 (Nat.le_refl _)) (H2.out.keep (last_fdMsgN _) b1) k7)
  have HB9 := Lib.hid (below_set (bstep HB8.out b1 (Nat.le_refl _)) hkB 8 (.slice none 0 0))
  have f8 := Blk.cell ⟨_, k7⟩ 8 z rfl
  have r8 := Blk.free ⟨_, k7⟩ 8
  clear b1 k7 H1 H2 HB8 q0 q1
  generalize w8.heap.size = k7 at *
  generalize w8.alloc (.cells (x.cells u (.slice ma x.msgs.length mc) z) 32) = W8 at *
  go_upto_region 11 with fail
  clear f8 r8
  generalize W8.setCell ⟨k7, 8, none⟩ (.slice none 0 0) = W9 at *
  have a9 := A9.out
  have f7 : W9.cell? ⟨k7, 7, none⟩ = some (.slice ma x.msgs.length mc) := Blk.cell ⟨_, a9.b7⟩ 7 _ rfl
  have hbB9 := HB9.out
  clear A9
  by_cases hn0 : NN = 0
  case neg =>
    have hE2 : E = errV NN := by rw [HE.out, if_neg hn0]
    subst hE2
    unfold errV
    have HBE := Lib.hid hbB9
    clear hbB9 HE a9 HMN HCG
    go_wp2_with fail
    go_ret
    exact ⟨rfl, HBE.out⟩
  have hE2 : E = .nilIface := by rw [HE.out, if_pos hn0]
  subst hE2
  by_cases hm0 : x.msgs.length = 0
  case pos =>
    rw [hm0] at f7
    have HBE := Lib.hid hbB9
    clear hbB9 HE a9 HMN HCG
    go_wp2_with fail
    go_ret
    exact ⟨rfl, HBE.out⟩
  obtain ⟨k, hk⟩ : ∃ k, x.msgs.length = k + 1 := ⟨x.msgs.length - 1, by omega⟩
  clear hm0 HE
  have hkl : k < x.msgs.length := by omega
  have hkb : k + 1 ≤ 262144 := by have := HF.out.mn; omega
  obtain ⟨TA, c, r, hTA, hTB, hTl, hx0, hx1, hx2, hc, hsg⟩ : ∃ TA c r : List UInt8, filT (cutD x (x.msgs.take (k + 1))) = TA ∧ TA = filT (cutD x (x.msgs.take k)) ++ 10 :: c ∧ TA.length ≤ 1048576 ∧
      (⟨TA.toArray⟩ : ByteArray).extract 0 (filT (cutD x (x.msgs.take k))).length = ⟨(filT (cutD x (x.msgs.take k))).toArray⟩ ∧ (⟨TA.toArray⟩ : ByteArray).extract ((filT (cutD x (x.msgs.take k))).length + 1) TA.length = ⟨c.toArray⟩ ∧
      (∀ h, (⟨TA.toArray⟩ : ByteArray)[(filT (cutD x (x.msgs.take k))).length]'h = 10) ∧ c = [66, 79, 95, 32] ++ r ∧ ∀ s ∈ (x.msgs[k]'hkl).sigs, sxB s = true ∧ (sxT s).length + 2 ≤ c.length := by
    obtain ⟨c, r, e1, e2, e3⟩ := HMN.out hn0 hk
    have e4 : x.msgs.take (k + 1) = x.msgs := List.take_of_length_le (by omega)
    rw [e4, e1]
    have hl := fil_len (d := cutD x (x.msgs.take (k + 1))) (HCG.out hn0 (k + 1)).1
    rw [e4, e1] at hl
    exact ⟨_, c, r, rfl, rfl, hl, (more_cut _ _).1, (more_cut _ _).2, fun h => by show (filT (cutD x (x.msgs.take k)) ++ 10 :: c)[(filT (cutD x (x.msgs.take k))).length] = 10; simp, e2, e3⟩
  have g1 := (HCG.out hn0 (k + 1)).1
  have g0 := (HCG.out hn0 k).1
  have cL1 := fun W C h => nlist_any (cutD x (x.msgs.take (k + 1))) (cut_fine HF.out (k + 1)).fit W C h
  have cL0 := fun W C h => nlist_any (cutD x (x.msgs.take k)) (cut_fine HF.out k).fit W C h
  have cP1 := file_parts (cutD x (x.msgs.take (k + 1))) (cut_fine HF.out (k + 1)) (cut_wf HW.out (k + 1))
  have cP0 := file_parts (cutD x (x.msgs.take k)) (cut_fine HF.out k) (cut_wf HW.out k)
  rw [g1, if_pos rfl, hTA] at cP1
  rw [g0, if_pos rfl] at cP0
  have HTL := Lib.hid hTl
  have HTB := Lib.hid hTB
  have HX := Lib.hid (show _ ∧ _ ∧ _ from ⟨hx0, hx1, hx2⟩)
  have HC := Lib.hid hc
  have HSG := Lib.hid hsg
  have HMW := Lib.hid (show MsgFine x.msgs[k] ∧ MsgWf x.msgs[k] from ⟨HF.out.ms _ (List.getElem_mem hkl), HW.out.ms _ (List.getElem_mem hkl)⟩)
  clear hTA hTB hTl hx0 hx1 hx2 hc hsg g1 g0 HMN HCG HF HW
  obtain ⟨b, cap, hv, hbB, hbl, ⟨D, hD⟩, cm, hcl, hfm, hrg⟩ := a9.mm.at0 (by decide) hkl
  simp only [Value.slice.injEq, true_and] at hv
  obtain ⟨rfl, rfl⟩ := hv
  obtain ⟨vs, ecm, hos⟩ := hfm
  obtain ⟨sa, sc, rfl, hss⟩ := hos.shape
  have hcap : k + 1 ≤ mc := by have := hml.le; omega
  rw [hk] at f7
  have hd1 : cm.toArray.size = 8 := by simpa using hcl
  have hd2 : cm.toArray.all (·.oneCell') = true := by
    rw [ecm]
    simpa using MsgD.cells_one x.msgs[k] sa x.msgs[k].sigs.length sc
  have hsz : (Tryz.prog.info? 46).map (·.size) = some cm.length := by rw [hcl]; exact msg_size
  have huM := Tryz.underlying46
  have hEM : cm.toArray = x.msgs[k].cells (.slice sa x.msgs[k].sigs.length sc) := by rw [ecm]
  have HEM := Lib.hid hEM
  have HNE := Lib.hid (show k7 ≠ W9.heap.size by have := (Array.getElem?_eq_some_iff.1 a9.b7).1; omega)
  have A9 := Lib.hid a9
  have HOS := Lib.hid hos
  have HB9 := Lib.hid hbB9
  clear a9 hos hbB9 ecm hss hbl hD hEM hml
  generalize x.msgs[k] = m at *
  go_upto_region 14 with (first | (refine wpList_load_mid rfl 46 (.tmp 59) rfl b (k * 8) rfl cm _ hrg huM rfl hsz ?_) | (refine wpList_newS (Z := zeroMsgD) (cs := cm.toArray) 46 (.tmp 8) (.tmp 60) (by rw [hd1]; exact msg_zero) (by rw [hd1]; rfl) hd2 ?_))
  have b2 : Below W9.heap.size W9 (W9.alloc (.cells cm.toArray 46)) := (Below.refl _ _).alloc (Nat.le_refl _) _
  have hk8 : Blk (W9.alloc (.cells cm.toArray 46)) W9.heap.size cm.toArray := ⟨_, heap_alloc_new W9 (.cells cm.toArray 46)⟩
  have a10 := A9.out.keep b2
  rw [hk] at a10
  have HOS1 := Lib.hid (HOS.out.keep (last_fdSigN _) b2)
  have HB10 := Lib.hid (bstep HB9.out b2 (Nat.le_refl _))
  have HK8 := Lib.hid hk8
  clear b2 hk8 A9 HOS HB9 f7 hrg hd2
  generalize W9.heap.size = k8 at *
  generalize W9.alloc (.cells cm.toArray 46) = W10 at *
  have B7 : Blk W10 k7 (x.cells u (.slice (some ⟨b, 0, none⟩) (k + 1) mc) (.slice none 0 0)) := ⟨_, a10.b7⟩
  have cLa := cL1 W10 _ (a10.rd (by omega))
  have A10 := Lib.hid a10
  clear a10 cL1
  have hqs : ∀ a n c, (x.cells u (.slice a n c) (.slice none 0 0)).size = 9 := fun a n c => rfl
  go_wp2_with (refine wpList_loadS B7 32 (.tmp 7) hu (by rw [hqs]; exact db_size) ?_)
  with_reducible refine cLa.mono ?_
  rintro e w11 ⟨vl, rfl, hol, hb⟩
  have A11 := Lib.hid (A10.out.keep hb)
  have HOS11 := Lib.hid (HOS1.out.keep (last_fdSigN _) hb)
  have HB11 := Lib.hid (bstep HB10.out hb (Nat.le_refl _))
  have HK11 := Lib.hid (HK8.out.keep hb (Nat.le_refl _))
  obtain ⟨el, fl, rfl, hsl⟩ := hol.shape
  have HSL := Lib.hid (hsl.weak fun _ _ => fd_node)
  clear hb cLa A10 HOS1 HB10 HK8 hol hsl B7
  have cPa := cP1 _ rfl el fl w11 HSL.out (HTU.out _ HB11.out) (HPT.out _ HB11.out)
  clear cP1 HSL
  generalize (nodL (cutD x (x.msgs.take (k + 1)))).length = nc at *
  go_wp2_with fail
  with_reducible refine cPa.mono ?_
  rintro e w12 ⟨rfl, hb⟩
  have a12 := A11.out.keep hb
  have HOS12 := Lib.hid (HOS11.out.keep (last_fdSigN _) hb)
  have HB12 := Lib.hid (bstep HB11.out hb (Nat.le_refl _))
  have HK12 := Lib.hid (HK11.out.keep hb (Nat.le_refl _))
  clear hb cPa A11 HOS11 HB11 HK11
  have f7 : w12.cell? ⟨k7, 7, none⟩ = some (.slice (some ⟨b, 0, none⟩) (k + 1) mc) := Blk.cell ⟨_, a12.b7⟩ 7 _ rfl
  have r7 : w12.frozen? ⟨k7, 7, none⟩ = false := Blk.free ⟨_, a12.b7⟩ 7
  have A13 := Lib.hid (a12.cut k)
  have HOS13 := Lib.hid (HOS12.out.setAt a12.b7 (by decide) (apt_fdSigN _ (by decide)) 7 (.slice (some ⟨b, 0, none⟩) k mc))
  have HB13 := Lib.hid (below_set HB12.out hkB 7 (.slice (some ⟨b, 0, none⟩) k mc))
  have HK13 := Lib.hid (HK12.out.other (a := ⟨k7, 7, none⟩) (HNE.out) (.slice (some ⟨b, 0, none⟩) k mc))
  clear a12 HOS12 HB12 HK12
  go_upto_region 16 with fail
  clear f7 r7
  generalize w12.setCell ⟨k7, 7, none⟩ (.slice (some ⟨b, 0, none⟩) k mc) = W13 at *
  have B7 : Blk W13 k7 (x.cells u (.slice (some ⟨b, 0, none⟩) k mc) (.slice none 0 0)) := ⟨_, A13.out.b7⟩
  have cLa := cL0 W13 _ (A13.out.rd (by omega))
  clear A13 cL0
  go_wp2_with (refine wpList_loadS B7 32 (.tmp 7) hu (by rw [hqs]; exact db_size) ?_)
  with_reducible refine cLa.mono ?_
  rintro e w14 ⟨vl, rfl, hol, hb⟩
  have HOS14 := Lib.hid (HOS13.out.keep (last_fdSigN _) hb)
  have HB14 := Lib.hid (bstep HB13.out hb (Nat.le_refl _))
  have HK14 := Lib.hid (HK13.out.keep hb (Nat.le_refl _))
  obtain ⟨gl, hl, rfl, hsl⟩ := hol.shape
  have HSL := Lib.hid (hsl.weak fun _ _ => fd_node)
  clear hb cLa HOS13 HB13 HK13 hol hsl B7
  have cPa := cP0 _ rfl gl hl w14 HSL.out (HTU.out _ HB14.out) (HPT.out _ HB14.out)
  clear cP0 HSL
  generalize (nodL (cutD x (x.msgs.take k))).length = nd at *
  generalize filT (cutD x (x.msgs.take k)) = TB at *
  go_wp2_with fail
  with_reducible refine cPa.mono ?_
  rintro e w15 ⟨rfl, hb⟩
  have HOS15 := Lib.hid (HOS14.out.keep (last_fdSigN _) hb)
  have HB15 := Lib.hid (bstep HB14.out hb (Nat.le_refl _))
  have HK15 := Lib.hid (HK14.out.keep hb (Nat.le_refl _))
  clear hb cPa HOS14 HB14 HK14
  obtain ⟨hx0, hx1, hx2⟩ := HX.out
  have hlA : TA.length = TB.length + 1 + c.length := by rw [HTB.out]; simp; omega
  have hlm := HTL.out
  have hle : ¬ ((TA.length : Int) ≤ TB.length) := by omega
  have hle2 : (TB.length : Int) ≤ TA.length := by omega
  have hix : TB.length < TA.length := by omega
  have hx2' := hx2 hix
  have hr9 : r.length ≤ 9000000000000000000 := by
    have e : c.length = r.length + 4 := by rw [HC.out]; simp
    omega
  have cH := fun W => head4_any r hr9 W
  rw [← HC.out] at cH
  have HLA := Lib.hid hlA
  clear HX hx2 hr9 hlA
  go_wp2_with fail
  with_reducible refine (cH _).mono ?_
  rintro e w16 ⟨rfl, rfl⟩
  have f6 : w16.cell? ⟨k8, 7, none⟩ = some (.slice sa m.sigs.length sc) := HK15.out.cell 7 _ (by rw [HEM.out]; rfl)
  obtain ⟨sa', sc', hsv, hss⟩ := HOS15.out.shape
  simp only [Value.slice.injEq, true_and] at hsv
  obtain ⟨rfl, rfl⟩ := hsv
  have HSS := Lib.hid (hss.weak fun _ _ h => fd_sig (fdSigN_fd h))
  have hns : m.sigs.length ≤ 262144 := HMW.out.1.sn'
  clear hss HOS15
  go_wp2_with fail
  go_loopw [12, 13, 14] (fun i g h wr => ∃ j : Nat, j ≤ m.sigs.length ∧ i = .int .i64 j ∧ Below w16.heap.size w16 wr) (fun i _ _ _ => m.sigs.length - (intOf i).toNat)
  case atStart => exact ⟨0, Nat.zero_le _, rfl, Below.refl _ _⟩
  case round =>
    obtain ⟨j, hj, rfl, hbel⟩ := hrel
    have f6' := f6
    have f6 : wr.cell? ⟨k8, 7, none⟩ = some (.slice sa m.sigs.length sc) := (HK15.out.keep hbel (Nat.le_refl _)).cell 7 _ (by rw [HEM.out]; rfl)
    clear f6'
    have HBW := Lib.hid (bstep HB15.out hbel (Nat.le_refl _))
    by_cases hlt : (j : Int) < m.sigs.length
    · have hlt' : j < m.sigs.length := by omega
      obtain ⟨b', o, rfl, hb', ds, hcl', hrd, hrg⟩ := SlRd.at (HSS.out.keep last_rdSig hbel) (by decide) hlt'
      have hmem := List.getElem_mem hlt'
      obtain ⟨hs1, hs2⟩ := HSG.out _ hmem
      have hfn := HMW.out.1.sg _ hmem
      have hwf := HMW.out.2.sg _ hmem
      have hsz : (Tryz.prog.info? 53).map (·.size) = some ds.length := by rw [hcl']; exact sig_size
      have huS := Tryz.underlying53
      generalize m.sigs[j] = y at *
      obtain ⟨a', cap', ecs, hsy⟩ := hrd
      have cg := signal_any y.d (sig_ok_of hfn hwf) y.rs (by have := hfn.rn; omega) hwf.w _ rfl a' cap' _ hsy (HTU.out _ HBW.out) (HPT.out _ HBW.out)
      rw [SigD.agg_eq] at cg
      have hED : y.d.cells (.slice a' y.rs.length cap') = ds.toArray := by rw [ecs]
      rw [hED] at cg
      unfold sigV at cg
      rw [show sigB y.d y.rs = true from hs1] at cg
      simp only [if_true] at cg
      rw [show sigT y.d y.rs = sxT y from rfl] at cg
      generalize sxT y = tS at *
      have hlI : ¬ ((c.length : Int) < tS.length + 2) := by omega
      have hlS : tS.length ≤ 1048576 := by have := HLA.out; have := HTL.out; omega
      clear hs1 hs2 hfn hwf hmem ecs hsy hED
      go_wp2_with (refine wpList_load_mid rfl 53 (.tmp 128) rfl b' (o + j * 19) rfl ds _ hrg huS rfl hsz ?_)
      with_reducible refine cg.mono ?_
      rintro e w17 ⟨rfl, hb⟩
      have HB17 := Lib.hid (bstep hbel hb (Nat.le_refl _))
      clear cg hb hbel hrg f6
      go_wp2_with fail
      go_roundw
      case rel => exact ⟨j + 1, by omega, by go_num, HB17.out⟩
      case measure => simp [intOf]; omega
    · obtain rfl : j = m.sigs.length := by omega
      clear hbel
      go_wp2_with fail
      go_ret
      exact ⟨rfl, HBW.out⟩
end Go.Proofs.YtampdbkafkcfdaaGreatDoor
