/-
  The reference's natural numbers: contract of divided.
-/
import Derived.Test.YtajebceanonalaaGreatDoorNatD
import Derived.Test.YtajebceanonalaaGreatDoorNatN
import Derived.Test.YtajebceanonalaaGreatDoorCalm
import Derived.StillTailTactics
import Derived.WalkSmall
import Derived.Laws.BitsAllLaws
import Derived.Deep.LoopGhost
namespace Go.Proofs.YtajebceanonalaaGreatDoor
set_option linter.unusedVariables false
open Go.RowKit

/-- two slices in blocks apart -/
def ApartV (v u : Value) : Prop := ∀ ad n c, v = .slice (some ad) n c → ∀ bd n' c', u = .slice (some bd) n' c' → ad.block ≠ bd.block
def BelowV (B : Nat) (u : Value) : Prop := ∀ bd n c, u = .slice (some bd) n c → bd.block < B
theorem belowV_of_owns {α : Type} {w : World} {base : Nat} {e : TypeId} {size : Nat} {en : α → List Value} {v : Value} {xs : List α} (h : Owns w base e size en v xs) : BelowV w.heap.size v := fun bd n c he => by
  subst he
  exact (h.lt bd.block rfl).2
theorem apart_of {B B' : Nat} {v u : Value} (h : FreshV B v) (h2 : BelowV B' u) (hB : B' ≤ B) : ApartV v u := fun ad n c e1 bd n' c' e2 => by
  have := h ad n c e1
  have := h2 bd n' c' e2
  omega
theorem natV_set {w : World} {v : Value} {n : Nat} (h : NatV w v n) {g q len cap : Nat} {u : Value} (ha : ApartV v (.slice (some ⟨g, 0, none⟩) len cap)) : NatV (w.setCell ⟨g, q, none⟩ u) v n := by
  obtain ⟨a, c, rfl, hs⟩ := h
  refine ⟨a, c, rfl, hs.of_block fun b o e => ?_⟩
  subst e
  exact Below.heap_setCell w _ u b (ha _ _ _ rfl ⟨g, 0, none⟩ _ _ rfl)
/-- quotient and rest, as the loop has them -/
def DivAt (m n K : Nat) (w wr : World) (vq vr i : Value) : Prop := ∃ (j r : Nat) (xs : List Nat), i = .int .i64 ((j : Int) - 1) ∧ j ≤ 32 * K ∧ Owns wr w.heap.size 103 1 enW vq xs ∧ xs.length = K ∧ okD xs ∧
  DivS m n j (valD xs) r ∧ NatV wr vr r ∧ ApartV vr vq ∧ Below w.heap.size w wr
def RetTwo (w : World) (q r : Nat) (e : Ending) (w' : World) : Prop := ∃ v u, e = .returned (.tuple #[v, u]) ∧ NatV w' v q ∧ NatV w' u r ∧ Below w.heap.size w w'
theorem natV_nil (w : World) : NatV w (.slice none 0 0) 0 := ⟨none, 0, by rw [digs_zero]; rfl, by rw [digs_zero]; exact SlOf.nil _ _ _⟩

theorem wrap32N (a : Nat) (h : a < 4294967296) : IntKind.u32.wrap (a : Int) = (a : Int) := by unfold IntKind.wrap; simp [IntKind.bits, IntKind.signed]; omega
theorem and_one_nat (x : Nat) (h : x < 4294967296) : bits .and .u64 (x : Int) 1 = ((x % 2 : Nat) : Int) := by
  rw [and_one_u64 _ (by omega) (by omega)]; omega

set_option maxRecDepth 100000 in
set_option maxHeartbeats 4000000 in
theorem divided_any (m n : Nat) (hn0 : 0 < n) (a b : Option Addr) (ca cb : Nat) (hm : (digs m).length ≤ 100000) (hn : (digs n).length ≤ 100000) (w : World) (hs : SlD w a ca (digs m)) (ht : SlD w b cb (digs n)) :
    Calls Tryz.prog 69 #[.slice a (digs m).length ca, .slice b (digs n).length cb] w (RetTwo w (m / n) (m % n)) := by
  have hmK : m < 4294967296 ^ (digs m).length := (digs_len m _).1 (Nat.le_refl _)
  have HST := Lib.hid (divS_start m n _ hmK hn0)
  have HS := Lib.hid hs
  have HT := Lib.hid ht
  clear hmK hs ht
  generalize hK : (digs m).length = K at *
  have HK := Lib.hid hK
  clear hK
  go_enter Tryz.func69, Tryz.ntmps69
  go_wp2_with fail
  go_loopw [6, 7] (fun v i wr => ∃ k : Nat, i = .int .i64 (k : Nat) ∧ k ≤ K ∧ Owns wr w.heap.size 103 1 enW v (List.replicate k 0) ∧ Below w.heap.size w wr) (fun _ i _ => K - (intOf i).toNat)
  case atStart => exact ⟨0, rfl, Nat.zero_le _, Owns.nil _ _ _ _ _, Below.refl _ _⟩
  case round =>
    obtain ⟨k, rfl, hk, hown, hb⟩ := hrel
    by_cases hkK : (k : Int) < K
    · go_wp2_with (at_builtin; go_loud (refine wpList_append_elem words_ty (List.replicate k 0) 0 hown hb (Nat.le_refl _) (by simp; omega) ?_ (hone := by simp [enW, Value.oneCell'])))
      intro v' w2 hown2 hb2
      clear hown hb
      go_wp2_with fail
      go_roundw
      case rel => exact ⟨k + 1, by go_num, by omega, by rw [List.replicate_succ']; exact hown2, hb2⟩
      case measure => simp [intOf]; omega
    · obtain rfl : k = K := by omega
      obtain ⟨aq, cq, rfl, _⟩ := hown.shape
      rw [List.length_replicate] at *
      go_wp2_with fail
      go_loopw [8, 9] (fun vr i wr => DivAt m n k w wr (.slice aq k cq) vr i) (fun _ i _ => (intOf i + 1).toNat)
      case atStart => exact ⟨32 * k, 0, List.replicate k 0, by go_num, Nat.le_refl _, hown, List.length_replicate, (fun x hx => by rw [(List.mem_replicate.1 hx).2]; decide), by rw [valD_zeros]; exact HST.out, natV_nil _, (fun ad n' c' he => by simp at he), hb⟩
      case round =>
        clear hown hb
        obtain ⟨j, r, xs, rfl, hj, hown, hlen, hok, hd, hr, hap, hb⟩ := hrel
        rcases Nat.eq_zero_or_pos j with h0 | h0
        · subst h0
          obtain ⟨e1, e2⟩ := divS_end hd
          obtain ⟨g, cg, hsl, hsx⟩ := hown.shape
          rw [hlen] at hsl
          simp only [Value.slice.injEq, true_and] at hsl
          obtain ⟨rfl, rfl⟩ := hsl
          have ct := trim_any xs hok aq cq _ hsx
          rw [hlen] at ct
          have HE := Lib.hid (And.intro e1 e2)
          have HR := Lib.hid hr
          clear hd hown hr e1 e2
          go_wp2_with fail
          refine ct.mono ?_
          rintro e w1 ⟨kk, rfl, hnv, rfl⟩
          have HNV := Lib.hid hnv
          clear hnv ct
          go_wp2_with fail
          go_ret2
          exact ⟨_, _, rfl, by rw [← HE.out.1]; exact HNV.out, by rw [← HE.out.2]; exact HR.out, hb⟩
        · obtain ⟨i, rfl⟩ : ∃ i, j = i + 1 := ⟨j - 1, by omega⟩
          have e0 : ((i + 1 : Nat) : Int) - 1 = (i : Int) := by omega
          rw [e0]
          obtain ⟨q, hq⟩ : ∃ q, q = i / 32 := ⟨_, rfl⟩
          obtain ⟨s, hs⟩ : ∃ s, s = i % 32 := ⟨_, rfl⟩
          have hqk : q < k := by omega
          have hs32 : s < 32 := by omega
          have r2 : (i : Int) / 32 = (q : Int) := by omega
          have r3 : (i : Int) % 32 = (s : Int) := by omega
          obtain ⟨ga, oa, rfl, _, hc⟩ := SlD.at (HS.out.keep hb (Nat.le_refl _)) (show q < (digs m).length by rw [HK.out]; exact hqk)
          have hdg : (digs m)[q]'(by rw [HK.out]; exact hqk) = m / 4294967296 ^ q % 4294967296 := by
            rw [← digit_digs, List.getElem?_eq_getElem (by rw [HK.out]; exact hqk)]; rfl
          rw [hdg] at hc
          have hbit := bit_val m i
          rw [← hq, ← hs] at hbit
          have hdl : m / 4294967296 ^ q % 4294967296 < 4294967296 := Nat.mod_lt _ (by decide)
          clear hdg
          generalize m / 4294967296 ^ q % 4294967296 = d at *
          have r4 : (d : Int) / 2 ^ s = ((d / 2 ^ s : Nat) : Int) := by rw [Int.natCast_ediv]; simp
          have hds : d / 2 ^ s ≤ d := Nat.div_le_self _ _
          have r5 : bits .and .u64 ((d / 2 ^ s : Nat) : Int) 1 = ((m / 2 ^ i % 2 : Nat) : Int) := by
            rw [and_one_nat _ (Nat.lt_of_le_of_lt hds hdl), hbit]
          have hb2 : m / 2 ^ i % 2 < 2 := Nat.mod_lt _ (by decide)
          have HQ := Lib.hid (And.intro hq hs)
          have HD := Lib.hid hd
          have hrn := hd.lt
          clear hbit hq hs hd
          generalize d / 2 ^ s = ds at *
          generalize hbb : m / 2 ^ i % 2 = bit at *
          have HBB := Lib.hid hbb
          have i1 : (ds : Int) ≤ 4294967295 := by omega
          clear hbb hdl hds
          obtain ⟨ar, cr, rfl, hsr⟩ := hr
          have hnL : n < 4294967296 ^ (digs n).length := (digs_len n _).1 (Nat.le_refl _)
          have hrL : (digs r).length ≤ (digs n).length := (digs_len r _).2 (by omega)
          have hrrL : (digs (r + r)).length ≤ (digs n).length + 1 := (digs_len _ _).2 (by rw [Nat.pow_succ]; omega)
          have hbL : (digs bit).length ≤ 1 := (digs_len _ _).2 (by rw [Nat.pow_one]; omega)
          have hRL : (digs (r + r + bit)).length ≤ (digs n).length + 1 := (digs_len _ _).2 (by rw [Nat.pow_succ]; omega)
          have p1 := plus_any r r ar ar cr cr (by omega) (by omega) _ hsr hsr
          have HR := Lib.hid hsr
          have HRN := Lib.hid hrn
          clear hnL hrn hsr
          have HOWN := Lib.hid hown
          have HQB := Lib.hid (belowV_of_owns hown)
          clear hown hap
          go_wp2_with fail
          with_reducible refine p1.mono ?_
          rintro e w1 ⟨v1, rfl, ⟨a1, c1, rfl, hs1⟩, hf, hb1⟩
          have HB1 := Lib.hid (bstep hb hb1 (Nat.le_refl _))
          have HOWN1 := Lib.hid (Owns.keep HOWN.out hb1 (Nat.le_refl _))
          have p2 := fun w' => from_any bit (by omega) w'
          have hb1' := hb1
          clear hb1 p1 hf
          go_wp2_with fail
          with_reducible refine (p2 _).mono ?_
          rintro e w2 ⟨v2, rfl, ⟨a2, c2, rfl, hs2⟩, hf, hb2'⟩
          have HB2 := Lib.hid (bstep HB1.out hb2' (Nat.le_refl _))
          have HOWN2 := Lib.hid (Owns.keep HOWN1.out hb2' (Nat.le_refl _))
          have p3 := plus_any (r + r) bit a1 a2 c1 c2 (by omega) (by omega) w2 (hs1.keep hb2' (Nat.le_refl _)) hs2
          clear p2 hs1 hs2 hf
          go_wp2_with fail
          with_reducible refine p3.mono ?_
          rintro e w3 ⟨v3, rfl, ⟨a3, c3, rfl, hs3⟩, hf, hb3⟩
          have HB3 := Lib.hid (bstep HB2.out hb3 (Nat.le_refl _))
          have HOWN3 := Lib.hid (Owns.keep HOWN2.out hb3 (Nat.le_refl _))
          have hT3 := HT.out.keep HB3.out (Nat.le_refl _)
          have HAP3 := Lib.hid (apart_of hf HQB.out (Nat.le_trans hb1'.size hb2'.size))
          have p4 := held_any (r + r + bit) n a3 b c3 cb (by omega) (by omega) w3 hs3 hT3
          clear hb3 p3 hf hb1' hb2'
          obtain ⟨R, hR⟩ : ∃ R, R = r + r + bit := ⟨_, rfl⟩
          rw [← hR] at hs3 p4 hRL ⊢
          have HRR := Lib.hid hR
          clear hR hrrL hbL hrL hc r4 r5
          obtain ⟨hv, hhv⟩ : ∃ x, x = heldI R n := ⟨_, rfl⟩
          rw [← hhv] at p4
          by_cases hRn : R < n
          · have hv1 : hv = -1 := by rw [hhv]; unfold heldI; rw [if_pos hRn]
            have HDN := Lib.hid (show DivS m n i (valD xs) R by
              have := divS_no HD.out (by rw [HBB.out, ← HRR.out]; exact hRn)
              rwa [HBB.out, ← HRR.out] at this)
            subst hv1
            clear hhv
            go_wp2_with fail
            with_reducible refine p4.mono ?_
            rintro e w4 ⟨rfl, rfl⟩
            clear p4
            go_wp2_with fail
            go_roundw
            case rel => exact ⟨i, R, xs, rfl, by omega, HOWN3.out, hlen, hok, HDN.out, ⟨a3, c3, rfl, hs3⟩, (by have h := HAP3.out; rwa [← HRR.out] at h), HB3.out⟩
            case measure => simp [intOf]
          · have hv1 : 0 ≤ hv := by rw [hhv]; unfold heldI; rw [if_neg hRn]; split <;> decide
            have HDY := Lib.hid (show DivS m n i (valD xs + 2 ^ i) (R - n) by
              have := divS_yes HD.out (by rw [HBB.out, ← HRR.out]; omega)
              rwa [HBB.out, ← HRR.out] at this)
            have p5 := less_any R n (by omega) a3 b c3 cb (by omega) w3 hs3 hT3
            clear hhv
            go_wp2_with fail
            with_reducible refine p4.mono ?_
            rintro e w4 ⟨rfl, rfl⟩
            clear p4
            go_wp2_with fail
            with_reducible refine p5.mono ?_
            rintro e w5 ⟨v5, rfl, ⟨a5, c5, rfl, hs5⟩, hf, hb5⟩
            have HB5 := Lib.hid (bstep HB3.out hb5 (Nat.le_refl _))
            have hown5 := Owns.keep HOWN3.out hb5 (Nat.le_refl _)
            have HAP5 := Lib.hid (apart_of hf (belowV_of_owns HOWN3.out) (Nat.le_refl _))
            have HNV5 := Lib.hid (show NatV w5 _ (R - n) from ⟨a5, c5, rfl, hs5⟩)
            clear hb5 p5 hs3 hT3 hf hs5
            have hk0 : 0 < xs.length := by omega
            obtain ⟨g, cg, hsl, hgb, hglt, hcap, hcm⟩ := hown5.block hk0
            rw [hlen] at hsl
            simp only [Value.slice.injEq, true_and] at hsl
            obtain ⟨rfl, rfl⟩ := hsl
            have hfr := hown5.free q
            obtain ⟨_, _, hge, _, hcq⟩ := SlD.at hown5.sl.2 (show q < xs.length by omega)
            simp only [Option.some.injEq, Addr.mk.injEq, and_true] at hge
            obtain ⟨rfl, rfl⟩ := hge
            rw [Nat.zero_add] at hcq
            obtain ⟨x, hx, hxl, hor, hps, hsum, hVS⟩ := bit_put hok HD.out HQ.out.1 HQ.out.2 (by omega)
            rw [hx] at hcq
            have r6 : bits .or .u32 (x : Int) ((2 ^ s : Nat) : Int) = ((x + 2 ^ s : Nat) : Int) := by rw [u32_or_nat _ _ hxl hps, hor]
            have r7 : IntKind.u32.wrap (2 ^ s) = ((2 ^ s : Nat) : Int) := by
              have : ((2 : Int) ^ s) = ((2 ^ s : Nat) : Int) := by simp
              rw [this]; exact wrap32N _ hps
            have r8 : IntKind.i64.wrap ((i : Int) / 32) = (q : Int) := by rw [r2]; unfold IntKind.wrap; simp [IntKind.bits, IntKind.signed]; omega
            have hqk2 : (q : Int) < k := by omega
            generalize hpw : 2 ^ s = pw at *
            have HOWN5 := Lib.hid hown5
            have HVS := Lib.hid hVS
            have HSUM := Lib.hid hsum
            have HX := Lib.hid hx
            have l0 := fun z : Later w5 => Later.cell hcq z
            clear hx hor hps hVS hsum hown5 hk0
            go_upto_region 14 with fail
            refine wp_region_later 13 (by kernel_rfl) (by kernel_rfl) ?_
            simp only [List.take_succ_cons, List.take_zero, List.drop_succ_cons, List.drop_zero]
            repeat (go_big_quiet_step (fail))
            refine wpQuiet_nil ?_
            rintro _ ⟨z, rfl⟩
            have l1 := l0 z
            have HB6 := Lib.hid (bstep HB5.out z.below (Nat.le_refl _))
            have HOWN6 := Lib.hid (Owns.keep HOWN5.out z.below (Nat.le_refl _))
            have HNV6 := Lib.hid (HNV5.out.keep z.below)
            have hfr6 := HOWN6.out.free q
            clear l0 hfr hcq
            generalize z.w = w6 at *
            go_wp2_with fail
            go_roundw
            case rel => exact ⟨i, R - n, xs.set q (x + pw), rfl, by omega, Owns.set1 (fun y : Nat => .int .u32 (y : Nat)) (fun _ => rfl) HOWN6.out (x + pw) (by omega), by rw [List.length_set]; exact hlen, okD_set hok q HSUM.out, by rw [HVS.out]; exact HDY.out, natV_set HNV6.out HAP5.out, HAP5.out, HB6.out.setCell (by simp; omega) _⟩
            case measure => simp [intOf]
end Go.Proofs.YtajebceanonalaaGreatDoor
