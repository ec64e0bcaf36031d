/-
  Slices of bytes at hand.
-/
import Derived.Test.YtajebceanonalaaGreatDoorNatC
import Derived.Test.YtajebceanonalaaGreatDoorNatM
import Derived.Test.YtajebceanonalaaGreatDoorCalm
import Derived.StillTailTactics
import Derived.WalkSmall
import Derived.Laws.BitsAllLaws
import Derived.Deep.LoopGhost
import Derived.Test.YtajebceanonalaaGreatDoorRows
import Derived.Test.YtajebceanonalaaGreatDoorBase

namespace Go.Proofs.YtajebceanonalaaGreatDoor
set_option linter.unusedVariables false
open Go.RowKit

def LessAt (m n K : Nat) (w wr : World) (v c i : Value) : Prop := ∃ (k cy : Nat) (xs : List Nat), i = .int .i64 (k : Nat) ∧ k ≤ K ∧ c = .int .u64 (cy : Nat) ∧ cy ≤ 1 ∧
  Owns wr w.heap.size 103 1 enW v xs ∧ xs.length = k ∧ okD xs ∧ valD xs + n % 4294967296 ^ k = m % 4294967296 ^ k + cy * 4294967296 ^ k ∧ Below w.heap.size w wr

theorem less_end {m n K v c : Nat} (hm : m < 4294967296 ^ K) (hnm : n ≤ m) (hv : v < 4294967296 ^ K) (h : v + n % 4294967296 ^ K = m % 4294967296 ^ K + c * 4294967296 ^ K) (hc : c ≤ 1) : v = m - n := by
  rw [Nat.mod_eq_of_lt (by omega), Nat.mod_eq_of_lt hm] at h
  have : c = 0 ∨ c = 1 := by omega
  rcases this with rfl | rfl <;> omega

set_option maxRecDepth 100000 in
set_option maxHeartbeats 2000000 in
theorem less_any (m n : Nat) (hnm : n ≤ m) (a b : Option Addr) (ca cb : Nat) (hm : (digs m).length ≤ 1000000) (w : World) (hs : SlD w a ca (digs m)) (ht : SlD w b cb (digs n)) :
    Calls Tryz.prog 110 #[.slice a (digs m).length ca, .slice b (digs n).length cb] w (RetNat w (m - n)) := by
  have hmK : m < 4294967296 ^ (digs m).length := (digs_len m _).1 (Nat.le_refl _)
  have HE := Lib.hid (And.intro hmK hnm)
  have HS := Lib.hid hs
  have HT := Lib.hid ht
  clear hmK hs ht hnm
  have cd := fun (i : Nat) (hi : i < 4611686018427387904) (wr : World) (h : Below w.heap.size w wr) => digit_any (digs m) (digs_ok m) a ca i hi wr (HS.out.keep h (Nat.le_refl _))
  have ce := fun (i : Nat) (hi : i < 4611686018427387904) (wr : World) (h : Below w.heap.size w wr) => digit_any (digs n) (digs_ok n) b cb i hi wr (HT.out.keep h (Nat.le_refl _))
  simp only [digit_digs] at cd ce
  generalize (digs m).length = K at *
  generalize (digs n).length = ln at *
  go_enter Tryz.func110, Tryz.ntmps110
  go_wp2_with fail
  go_loopw [5, 6, 7] (fun v c i wr => LessAt m n K w wr v c i) (fun _ _ i _ => K - (intOf i).toNat)
  case atStart => exact ⟨0, 0, [], rfl, Nat.zero_le _, rfl, Nat.zero_le _, Owns.nil _ _ _ _ _, rfl, (fun _ h => absurd h List.not_mem_nil), by simp [valD, Nat.mod_one], Below.refl _ _⟩
  case round =>
    obtain ⟨k, cy, xs, rfl, hk, rfl, hcy, hown, hlen, hok, hv, hb⟩ := hrel
    have HV := Lib.hid hv
    have HOK := Lib.hid hok
    have HLEN := Lib.hid hlen
    clear hv hok hlen
    by_cases hkK : (k : Int) < K
    · have c1 := cd k (by omega) _ hb
      have c2 := ce k (by omega) _ hb
      have x1 := Nat.mod_lt (m / 4294967296 ^ k) (show 0 < 4294967296 by decide)
      have x2 := Nat.mod_lt (n / 4294967296 ^ k) (show 0 < 4294967296 by decide)
      have hst := less_step m n k (valD xs) cy HV.out hcy (4294967296 + m / 4294967296 ^ k % 4294967296 - n / 4294967296 ^ k % 4294967296 - cy) (by omega)
      have HST := Lib.hid hst
      clear cd ce hst
      generalize m / 4294967296 ^ k % 4294967296 = x at *
      generalize n / 4294967296 ^ k % 4294967296 = y at *
      have en : (4294967296 : Int) + (x : Int) - (y : Int) - (cy : Int) = ((4294967296 + x - y - cy : Nat) : Int) := by omega
      have hnn : 4294967296 + x - y - cy < 8589934592 := by omega
      generalize 4294967296 + x - y - cy = nn at *
      have e1 : IntKind.u32.wrap (nn : Int) = ((nn % 4294967296 : Nat) : Int) := by unfold IntKind.wrap; simp [IntKind.bits, IntKind.signed]
      have e2 : (nn : Int) / 4294967296 = ((nn / 4294967296 : Nat) : Int) := by omega
      have hlo : nn % 4294967296 < 4294967296 := by omega
      have hhi : nn / 4294967296 ≤ 1 := by omega
      have e3 : (1 : Int) - ((nn / 4294967296 : Nat) : Int) = ((1 - nn / 4294967296 : Nat) : Int) := by omega
      generalize nn % 4294967296 = lo at *
      generalize nn / 4294967296 = hi at *
      have hcy2 : 1 - hi ≤ 1 := by omega
      generalize 1 - hi = cy2 at *
      have HLO := Lib.hid hlo
      clear hlo
      go_wp2_with fail
      with_reducible refine c1.mono ?_
      rintro e w1 ⟨rfl, rfl⟩
      go_wp2_with fail
      with_reducible refine c2.mono ?_
      rintro e w1 ⟨rfl, rfl⟩
      clear c1 c2
      go_wp2_with (at_builtin; go_loud (refine wpList_append_elem words_ty xs lo hown hb (Nat.le_refl _) (by have := HLEN.out; omega) ?_ (hone := by simp [enW, Value.oneCell'])))
      intro v' w2 hown2 hb2
      clear hown hb
      go_wp2_with fail
      go_roundw
      case rel => exact ⟨k + 1, cy2, xs ++ [lo], by go_num, by omega, rfl, hcy2, hown2, by rw [List.length_append, HLEN.out]; rfl, okD_snoc HOK.out HLO.out, by rw [valD_snoc, HLEN.out]; exact HST.out.1, hb2⟩
      case measure => simp [intOf]; omega
    · have hkk : k = K := by omega
      subst hkk
      have HSUM := Lib.hid (less_end HE.out.1 HE.out.2 (by have := valD_lt HOK.out; rwa [HLEN.out] at this) HV.out hcy)
      obtain ⟨g, cg, rfl, hsx⟩ := hown.shape
      have ct := trim_any xs HOK.out g cg _ hsx
      rw [HSUM.out] at ct
      have HF := Lib.hid (fun kk => fresh_of_owns hown kk)
      clear hown cd ce
      go_wp2_with fail
      refine ct.mono ?_
      rintro e w1 ⟨kk, rfl, hnv, rfl⟩
      have HNV := Lib.hid hnv
      clear hnv ct
      go_wp2_with fail
      go_ret
      exact ⟨_, rfl, HNV.out, HF.out _, hb⟩
end Go.Proofs.YtajebceanonalaaGreatDoor

namespace Go.Proofs.YtajebceanonalaaGreatDoor
set_option linter.unusedVariables false

theorem p32' : (2 : Nat) ^ 32 = 4294967296 := by decide +kernel
theorem powB (j : Nat) : 4294967296 ^ j = 2 ^ (32 * j) := by rw [Nat.pow_mul, p32']

theorem digit_val {l : List Nat} (hl : okD l) (j : Nat) (hj : j < l.length) : l[j] = valD l / 4294967296 ^ j % 4294967296 := by
  induction l generalizing j with
  | nil => simp at hj
  | cons d l ih =>
    have h1 := hl d (by simp)
    cases j with
    | zero => rw [List.getElem_cons_zero, valD, Nat.pow_zero, Nat.div_one]; omega
    | succ j =>
      rw [List.getElem_cons_succ, ih (fun x hx => hl x (by simp [hx])) j (by simpa using hj), valD, Nat.pow_succ, Nat.mul_comm (4294967296 ^ j), ← Nat.div_div_eq_div_mul]
      congr 2
      omega

theorem valD_set (l : List Nat) (j : Nat) (hj : j < l.length) (y : Nat) : valD (l.set j y) + 4294967296 ^ j * l[j] = valD l + 4294967296 ^ j * y := by
  induction l generalizing j with
  | nil => simp at hj
  | cons d l ih =>
    cases j with
    | zero => simp [valD]; omega
    | succ j =>
      have := ih j (by simpa using hj)
      rw [List.set_cons_succ, valD, valD, List.getElem_cons_succ, Nat.pow_succ, Nat.mul_comm (4294967296 ^ j), Nat.mul_assoc, Nat.mul_assoc]
      omega

theorem bit_val (m i : Nat) : m / 4294967296 ^ (i / 32) % 4294967296 / 2 ^ (i % 32) % 2 = m / 2 ^ i % 2 := by
  have hs : i % 32 < 32 := Nat.mod_lt _ (by decide)
  have e : i = 32 * (i / 32) + i % 32 := (Nat.div_add_mod i 32).symm
  have e1 : m / 2 ^ i = m / 4294967296 ^ (i / 32) / 2 ^ (i % 32) := by
    conv => lhs; rw [e]
    rw [powB, Nat.pow_add, Nat.div_div_eq_div_mul]
  rw [e1]
  generalize m / 4294967296 ^ (i / 32) = x
  generalize i % 32 = s at *
  have e2 : (4294967296 : Nat) = 2 ^ s * 2 ^ (32 - s) := by rw [← Nat.pow_add, show s + (32 - s) = 32 by omega, p32']
  rw [e2, Nat.mod_mul_right_div_self]
  have e3 : (2 : Nat) ^ (32 - s) = 2 * 2 ^ (31 - s) := by rw [show 32 - s = (31 - s) + 1 by omega, Nat.pow_succ, Nat.mul_comm]
  rw [e3, Nat.mod_mul_right_mod]

/-- a bit that isn't there yet -/
theorem or_bit {x s : Nat} (h : 2 ^ (s + 1) ∣ x) : x ||| 2 ^ s = x + 2 ^ s := by
  obtain ⟨c, rfl⟩ := h
  have := Nat.shiftLeft_add_eq_or_of_lt (i := s + 1) (b := 2 ^ s) (Nat.pow_lt_pow_right (by decide) (by omega)) c
  rw [Nat.shiftLeft_eq, Nat.mul_comm] at this
  exact this.symm

theorem digit_low {v i Q : Nat} (hv : v = 2 ^ (i + 1) * Q) : 2 ^ (i % 32 + 1) ∣ v / 4294967296 ^ (i / 32) % 4294967296 := by
  have hs : i % 32 < 32 := Nat.mod_lt _ (by decide)
  have e : i + 1 = 32 * (i / 32) + (i % 32 + 1) := by have := Nat.div_add_mod i 32; omega
  have e3 : 2 ^ (32 * (i / 32) + (i % 32 + 1)) = 4294967296 ^ (i / 32) * 2 ^ (i % 32 + 1) := by rw [Nat.pow_add 2 (32 * (i / 32)), ← powB]
  rw [hv, e, e3, Nat.mul_assoc, Nat.mul_div_cancel_left _ (Nat.pow_pos (by decide))]
  generalize i % 32 = s at *
  have e2 : (4294967296 : Nat) = 2 ^ (s + 1) * 2 ^ (31 - s) := by rw [← Nat.pow_add, show s + 1 + (31 - s) = 32 by omega, p32']
  rw [e2, Nat.mul_mod_mul_left]
  exact ⟨_, rfl⟩

/-- what the division has when i bits are left -/
structure DivS (m n i v r : Nat) : Prop where
  lt : r < n
  ex : ∃ Q, v = 2 ^ i * Q ∧ Q * n + r = m / 2 ^ i
theorem div_bit {m i : Nat} : m / 2 ^ i = 2 * (m / 2 ^ (i + 1)) + m / 2 ^ i % 2 := by
  rw [Nat.pow_succ, ← Nat.div_div_eq_div_mul]
  omega
theorem divS_no {m n i v r : Nat} (h : DivS m n (i + 1) v r) (hlt : r + r + m / 2 ^ i % 2 < n) : DivS m n i v (r + r + m / 2 ^ i % 2) := by
  obtain ⟨h1, Q, h2, h3⟩ := h
  refine ⟨hlt, 2 * Q, by rw [h2, Nat.pow_succ, Nat.mul_assoc], ?_⟩
  conv => rhs; rw [div_bit, ← h3]
  rw [Nat.mul_assoc]
  omega
theorem divS_yes {m n i v r : Nat} (h : DivS m n (i + 1) v r) (hge : n ≤ r + r + m / 2 ^ i % 2) : DivS m n i (v + 2 ^ i) (r + r + m / 2 ^ i % 2 - n) := by
  obtain ⟨h1, Q, h2, h3⟩ := h
  have hb : m / 2 ^ i % 2 < 2 := Nat.mod_lt _ (by decide)
  refine ⟨by omega, 2 * Q + 1, by rw [h2, Nat.pow_succ, Nat.mul_add, Nat.mul_assoc, Nat.mul_one], ?_⟩
  conv => rhs; rw [div_bit, ← h3]
  rw [Nat.add_mul, Nat.mul_assoc]
  omega
theorem divS_end {m n v r : Nat} (h : DivS m n 0 v r) : v = m / n ∧ r = m % n := by
  obtain ⟨h1, Q, h2, h3⟩ := h
  rw [Nat.pow_zero, Nat.div_one] at h3
  rw [Nat.pow_zero, Nat.one_mul] at h2
  subst h2
  rw [← h3, Nat.mul_comm, Nat.mul_add_div (by omega), Nat.div_eq_of_lt h1, Nat.mul_add_mod, Nat.mod_eq_of_lt h1]
  exact ⟨rfl, rfl⟩
theorem divS_start (m n K : Nat) (hm : m < 4294967296 ^ K) (hn : 0 < n) : DivS m n (32 * K) 0 0 :=
  ⟨hn, 0, by simp, by rw [← powB, Nat.div_eq_of_lt hm]; simp⟩
theorem valD_zeros (k : Nat) : valD (List.replicate k 0) = 0 := by
  induction k with
  | zero => rfl
  | succ k ih => rw [List.replicate_succ, valD, ih]

/-- a bit of the quotient is laid -/
theorem bit_put {xs : List Nat} (hok : okD xs) {m n i r q s : Nat} (h : DivS m n (i + 1) (valD xs) r) (hq : q = i / 32) (hs : s = i % 32) (hql : q < xs.length) :
    ∃ x, xs[q] = x ∧ x < 4294967296 ∧ x ||| 2 ^ s = x + 2 ^ s ∧ 2 ^ s < 4294967296 ∧ x + 2 ^ s < 4294967296 ∧ valD (xs.set q (x + 2 ^ s)) = valD xs + 2 ^ i := by
  have hs32 : s < 32 := by omega
  have hxd := digit_val hok q hql
  have hxl := hok xs[q] (List.getElem_mem _)
  have hset := fun y => valD_set xs q hql y
  have hlow : 2 ^ (s + 1) ∣ xs[q] := by
    obtain ⟨Q, hQ1, _⟩ := h.ex
    rw [hxd, hq, hs]
    exact digit_low hQ1
  clear hxd
  generalize xs[q] = x at *
  refine ⟨x, rfl, hxl, or_bit hlow, ?_, ?_, ?_⟩
  · rw [← p32']; exact Nat.pow_lt_pow_right (by decide) hs32
  · obtain ⟨c, hc⟩ := hlow
    have e2 : (4294967296 : Nat) = 2 ^ (s + 1) * 2 ^ (31 - s) := by rw [← Nat.pow_add, show s + 1 + (31 - s) = 32 by omega, p32']
    have hc2 : c < 2 ^ (31 - s) := by
      rw [hc, e2] at hxl
      exact Nat.lt_of_mul_lt_mul_left hxl
    have h3 := Nat.mul_le_mul_left (2 ^ (s + 1)) (show c + 1 ≤ 2 ^ (31 - s) from hc2)
    rw [← e2, Nat.mul_add, ← hc, Nat.mul_one, Nat.pow_succ] at h3
    have hp : 0 < 2 ^ s := Nat.pow_pos (by decide)
    omega
  · have e : 4294967296 ^ q * 2 ^ s = 2 ^ i := by rw [powB, ← Nat.pow_add, hq, hs, Nat.div_add_mod]
    have h4 := hset (x + 2 ^ s)
    rw [Nat.mul_add, e] at h4
    omega
end Go.Proofs.YtajebceanonalaaGreatDoor

namespace Go.Proofs.YtajebceanonalaaGreatDoor
set_option linter.unusedVariables false
open Go.RowKit

/-- two slices in blocks apart -/
def ApartV (v u : Value) : Prop := ∀ ad n c, v = .slice (some ad) n c → ∀ bd n' c', u = .slice (some bd) n' c' → ad.block ≠ bd.block
def BelowV (B : Nat) (u : Value) : Prop := ∀ bd n c, u = .slice (some bd) n c → bd.block < B
theorem belowV_of_owns {α : Type} {w : World} {base : Nat} {e : TypeId} {size : Nat} {en : α → List Value} {v : Value} {xs : List α} (h : Owns w base e size en v xs) : BelowV w.heap.size v := fun bd n c he => by
  subst he
  exact (h.lt bd.block rfl).2
theorem apart_of {B B' : Nat} {v u : Value} (h : FreshV B v) (h2 : BelowV B' u) (hB : B' ≤ B) : ApartV v u := fun ad n c e1 bd n' c' e2 => by
  have := h ad n c e1
  have := h2 bd n' c' e2
  omega
theorem natV_set {w : World} {v : Value} {n : Nat} (h : NatV w v n) {g q len cap : Nat} {u : Value} (ha : ApartV v (.slice (some ⟨g, 0, none⟩) len cap)) : NatV (w.setCell ⟨g, q, none⟩ u) v n := by
  obtain ⟨a, c, rfl, hs⟩ := h
  refine ⟨a, c, rfl, hs.of_block fun b o e => ?_⟩
  subst e
  exact Below.heap_setCell w _ u b (ha _ _ _ rfl ⟨g, 0, none⟩ _ _ rfl)
/-- quotient and rest, as the loop has them -/
def DivAt (m n K : Nat) (w wr : World) (vq vr i : Value) : Prop := ∃ (j r : Nat) (xs : List Nat), i = .int .i64 ((j : Int) - 1) ∧ j ≤ 32 * K ∧ Owns wr w.heap.size 103 1 enW vq xs ∧ xs.length = K ∧ okD xs ∧
  DivS m n j (valD xs) r ∧ NatV wr vr r ∧ ApartV vr vq ∧ Below w.heap.size w wr
def RetTwo (w : World) (q r : Nat) (e : Ending) (w' : World) : Prop := ∃ v u, e = .returned (.tuple #[v, u]) ∧ NatV w' v q ∧ NatV w' u r ∧ Below w.heap.size w w'
theorem natV_nil (w : World) : NatV w (.slice none 0 0) 0 := ⟨none, 0, by rw [digs_zero]; rfl, by rw [digs_zero]; exact SlOf.nil _ _ _⟩

theorem wrap32N (a : Nat) (h : a < 4294967296) : IntKind.u32.wrap (a : Int) = (a : Int) := by unfold IntKind.wrap; simp [IntKind.bits, IntKind.signed]; omega
theorem and_one_nat (x : Nat) (h : x < 4294967296) : bits .and .u64 (x : Int) 1 = ((x % 2 : Nat) : Int) := by
  rw [and_one_u64 _ (by omega) (by omega)]; omega

set_option maxRecDepth 100000 in
set_option maxHeartbeats 4000000 in
theorem divided_any (m n : Nat) (hn0 : 0 < n) (a b : Option Addr) (ca cb : Nat) (hm : (digs m).length ≤ 100000) (hn : (digs n).length ≤ 100000) (w : World) (hs : SlD w a ca (digs m)) (ht : SlD w b cb (digs n)) :
    Calls Tryz.prog 69 #[.slice a (digs m).length ca, .slice b (digs n).length cb] w (RetTwo w (m / n) (m % n)) := by
  have hmK : m < 4294967296 ^ (digs m).length := (digs_len m _).1 (Nat.le_refl _)
  have HST := Lib.hid (divS_start m n _ hmK hn0)
  have HS := Lib.hid hs
  have HT := Lib.hid ht
  clear hmK hs ht
  generalize hK : (digs m).length = K at *
  have HK := Lib.hid hK
  clear hK
  go_enter Tryz.func69, Tryz.ntmps69
  go_wp2_with fail
  go_loopw [6, 7] (fun v i wr => ∃ k : Nat, i = .int .i64 (k : Nat) ∧ k ≤ K ∧ Owns wr w.heap.size 103 1 enW v (List.replicate k 0) ∧ Below w.heap.size w wr) (fun _ i _ => K - (intOf i).toNat)
  case atStart => exact ⟨0, rfl, Nat.zero_le _, Owns.nil _ _ _ _ _, Below.refl _ _⟩
  case round =>
    obtain ⟨k, rfl, hk, hown, hb⟩ := hrel
    by_cases hkK : (k : Int) < K
    · go_wp2_with (at_builtin; go_loud (refine wpList_append_elem words_ty (List.replicate k 0) 0 hown hb (Nat.le_refl _) (by simp; omega) ?_ (hone := by simp [enW, Value.oneCell'])))
      intro v' w2 hown2 hb2
      clear hown hb
      go_wp2_with fail
      go_roundw
      case rel => exact ⟨k + 1, by go_num, by omega, by rw [List.replicate_succ']; exact hown2, hb2⟩
      case measure => simp [intOf]; omega
    · obtain rfl : k = K := by omega
      obtain ⟨aq, cq, rfl, _⟩ := hown.shape
      rw [List.length_replicate] at *
      go_wp2_with fail
      go_loopw [8, 9] (fun vr i wr => DivAt m n k w wr (.slice aq k cq) vr i) (fun _ i _ => (intOf i + 1).toNat)
      case atStart => exact ⟨32 * k, 0, List.replicate k 0, by go_num, Nat.le_refl _, hown, List.length_replicate, (fun x hx => by rw [(List.mem_replicate.1 hx).2]; decide), by rw [valD_zeros]; exact HST.out, natV_nil _, (fun ad n' c' he => by simp at he), hb⟩
      case round =>
        clear hown hb
        obtain ⟨j, r, xs, rfl, hj, hown, hlen, hok, hd, hr, hap, hb⟩ := hrel
        rcases Nat.eq_zero_or_pos j with h0 | h0
        · subst h0
          obtain ⟨e1, e2⟩ := divS_end hd
          obtain ⟨g, cg, hsl, hsx⟩ := hown.shape
          rw [hlen] at hsl
          simp only [Value.slice.injEq, true_and] at hsl
          obtain ⟨rfl, rfl⟩ := hsl
          have ct := trim_any xs hok aq cq _ hsx
          rw [hlen] at ct
          have HE := Lib.hid (And.intro e1 e2)
          have HR := Lib.hid hr
          clear hd hown hr e1 e2
          go_wp2_with fail
          refine ct.mono ?_
          rintro e w1 ⟨kk, rfl, hnv, rfl⟩
          have HNV := Lib.hid hnv
          clear hnv ct
          go_wp2_with fail
          go_ret2
          exact ⟨_, _, rfl, by rw [← HE.out.1]; exact HNV.out, by rw [← HE.out.2]; exact HR.out, hb⟩
        · obtain ⟨i, rfl⟩ : ∃ i, j = i + 1 := ⟨j - 1, by omega⟩
          have e0 : ((i + 1 : Nat) : Int) - 1 = (i : Int) := by omega
          rw [e0]
          obtain ⟨q, hq⟩ : ∃ q, q = i / 32 := ⟨_, rfl⟩
          obtain ⟨s, hs⟩ : ∃ s, s = i % 32 := ⟨_, rfl⟩
          have hqk : q < k := by omega
          have hs32 : s < 32 := by omega
          have r2 : (i : Int) / 32 = (q : Int) := by omega
          have r3 : (i : Int) % 32 = (s : Int) := by omega
          obtain ⟨ga, oa, rfl, _, hc⟩ := SlD.at (HS.out.keep hb (Nat.le_refl _)) (show q < (digs m).length by rw [HK.out]; exact hqk)
          have hdg : (digs m)[q]'(by rw [HK.out]; exact hqk) = m / 4294967296 ^ q % 4294967296 := by
            rw [← digit_digs, List.getElem?_eq_getElem (by rw [HK.out]; exact hqk)]; rfl
          rw [hdg] at hc
          have hbit := bit_val m i
          rw [← hq, ← hs] at hbit
          have hdl : m / 4294967296 ^ q % 4294967296 < 4294967296 := Nat.mod_lt _ (by decide)
          clear hdg
          generalize m / 4294967296 ^ q % 4294967296 = d at *
          have r4 : (d : Int) / 2 ^ s = ((d / 2 ^ s : Nat) : Int) := by rw [Int.natCast_ediv]; simp
          have hds : d / 2 ^ s ≤ d := Nat.div_le_self _ _
          have r5 : bits .and .u64 ((d / 2 ^ s : Nat) : Int) 1 = ((m / 2 ^ i % 2 : Nat) : Int) := by
            rw [and_one_nat _ (Nat.lt_of_le_of_lt hds hdl), hbit]
          have hb2 : m / 2 ^ i % 2 < 2 := Nat.mod_lt _ (by decide)
          have HQ := Lib.hid (And.intro hq hs)
          have HD := Lib.hid hd
          have hrn := hd.lt
          clear hbit hq hs hd
          generalize d / 2 ^ s = ds at *
          generalize hbb : m / 2 ^ i % 2 = bit at *
          have HBB := Lib.hid hbb
          have i1 : (ds : Int) ≤ 4294967295 := by omega
          clear hbb hdl hds
          obtain ⟨ar, cr, rfl, hsr⟩ := hr
          have hnL : n < 4294967296 ^ (digs n).length := (digs_len n _).1 (Nat.le_refl _)
          have hrL : (digs r).length ≤ (digs n).length := (digs_len r _).2 (by omega)
          have hrrL : (digs (r + r)).length ≤ (digs n).length + 1 := (digs_len _ _).2 (by rw [Nat.pow_succ]; omega)
          have hbL : (digs bit).length ≤ 1 := (digs_len _ _).2 (by rw [Nat.pow_one]; omega)
          have hRL : (digs (r + r + bit)).length ≤ (digs n).length + 1 := (digs_len _ _).2 (by rw [Nat.pow_succ]; omega)
          have p1 := plus_any r r ar ar cr cr (by omega) (by omega) _ hsr hsr
          have HR := Lib.hid hsr
          have HRN := Lib.hid hrn
          clear hnL hrn hsr
          have HOWN := Lib.hid hown
          have HQB := Lib.hid (belowV_of_owns hown)
          clear hown hap
          go_wp2_with fail
          with_reducible refine p1.mono ?_
          rintro e w1 ⟨v1, rfl, ⟨a1, c1, rfl, hs1⟩, hf, hb1⟩
          have HB1 := Lib.hid (bstep hb hb1 (Nat.le_refl _))
          have HOWN1 := Lib.hid (Owns.keep HOWN.out hb1 (Nat.le_refl _))
          have p2 := fun w' => from_any bit (by omega) w'
          have hb1' := hb1
          clear hb1 p1 hf
          go_wp2_with fail
          with_reducible refine (p2 _).mono ?_
          rintro e w2 ⟨v2, rfl, ⟨a2, c2, rfl, hs2⟩, hf, hb2'⟩
          have HB2 := Lib.hid (bstep HB1.out hb2' (Nat.le_refl _))
          have HOWN2 := Lib.hid (Owns.keep HOWN1.out hb2' (Nat.le_refl _))
          have p3 := plus_any (r + r) bit a1 a2 c1 c2 (by omega) (by omega) w2 (hs1.keep hb2' (Nat.le_refl _)) hs2
          clear p2 hs1 hs2 hf
          go_wp2_with fail
          with_reducible refine p3.mono ?_
          rintro e w3 ⟨v3, rfl, ⟨a3, c3, rfl, hs3⟩, hf, hb3⟩
          have HB3 := Lib.hid (bstep HB2.out hb3 (Nat.le_refl _))
          have HOWN3 := Lib.hid (Owns.keep HOWN2.out hb3 (Nat.le_refl _))
          have hT3 := HT.out.keep HB3.out (Nat.le_refl _)
          have HAP3 := Lib.hid (apart_of hf HQB.out (Nat.le_trans hb1'.size hb2'.size))
          have p4 := held_any (r + r + bit) n a3 b c3 cb (by omega) (by omega) w3 hs3 hT3
          clear hb3 p3 hf hb1' hb2'
          obtain ⟨R, hR⟩ : ∃ R, R = r + r + bit := ⟨_, rfl⟩
          rw [← hR] at hs3 p4 hRL ⊢
          have HRR := Lib.hid hR
          clear hR hrrL hbL hrL hc r4 r5
          obtain ⟨hv, hhv⟩ : ∃ x, x = heldI R n := ⟨_, rfl⟩
          rw [← hhv] at p4
          by_cases hRn : R < n
          · have hv1 : hv = -1 := by rw [hhv]; unfold heldI; rw [if_pos hRn]
            have HDN := Lib.hid (show DivS m n i (valD xs) R by
              have := divS_no HD.out (by rw [HBB.out, ← HRR.out]; exact hRn)
              rwa [HBB.out, ← HRR.out] at this)
            subst hv1
            clear hhv
            go_wp2_with fail
            with_reducible refine p4.mono ?_
            rintro e w4 ⟨rfl, rfl⟩
            clear p4
            go_wp2_with fail
            go_roundw
            case rel => exact ⟨i, R, xs, rfl, by omega, HOWN3.out, hlen, hok, HDN.out, ⟨a3, c3, rfl, hs3⟩, (by have h := HAP3.out; rwa [← HRR.out] at h), HB3.out⟩
            case measure => simp [intOf]
          · have hv1 : 0 ≤ hv := by rw [hhv]; unfold heldI; rw [if_neg hRn]; split <;> decide
            have HDY := Lib.hid (show DivS m n i (valD xs + 2 ^ i) (R - n) by
              have := divS_yes HD.out (by rw [HBB.out, ← HRR.out]; omega)
              rwa [HBB.out, ← HRR.out] at this)
            have p5 := less_any R n (by omega) a3 b c3 cb (by omega) w3 hs3 hT3
            clear hhv
            go_wp2_with fail
            with_reducible refine p4.mono ?_
            rintro e w4 ⟨rfl, rfl⟩
            clear p4
            go_wp2_with fail
            with_reducible refine p5.mono ?_
            rintro e w5 ⟨v5, rfl, ⟨a5, c5, rfl, hs5⟩, hf, hb5⟩
            have HB5 := Lib.hid (bstep HB3.out hb5 (Nat.le_refl _))
            have hown5 := Owns.keep HOWN3.out hb5 (Nat.le_refl _)
            have HAP5 := Lib.hid (apart_of hf (belowV_of_owns HOWN3.out) (Nat.le_refl _))
            have HNV5 := Lib.hid (show NatV w5 _ (R - n) from ⟨a5, c5, rfl, hs5⟩)
            clear hb5 p5 hs3 hT3 hf hs5
            have hk0 : 0 < xs.length := by omega
            obtain ⟨g, cg, hsl, hgb, hglt, hcap, hcm⟩ := hown5.block hk0
            rw [hlen] at hsl
            simp only [Value.slice.injEq, true_and] at hsl
            obtain ⟨rfl, rfl⟩ := hsl
            have hfr := hown5.free q
            obtain ⟨_, _, hge, _, hcq⟩ := SlD.at hown5.sl.2 (show q < xs.length by omega)
            simp only [Option.some.injEq, Addr.mk.injEq, and_true] at hge
            obtain ⟨rfl, rfl⟩ := hge
            rw [Nat.zero_add] at hcq
            obtain ⟨x, hx, hxl, hor, hps, hsum, hVS⟩ := bit_put hok HD.out HQ.out.1 HQ.out.2 (by omega)
            rw [hx] at hcq
            have r6 : bits .or .u32 (x : Int) ((2 ^ s : Nat) : Int) = ((x + 2 ^ s : Nat) : Int) := by rw [u32_or_nat _ _ hxl hps, hor]
            have r7 : IntKind.u32.wrap (2 ^ s) = ((2 ^ s : Nat) : Int) := by
              have : ((2 : Int) ^ s) = ((2 ^ s : Nat) : Int) := by simp
              rw [this]; exact wrap32N _ hps
            have r8 : IntKind.i64.wrap ((i : Int) / 32) = (q : Int) := by rw [r2]; unfold IntKind.wrap; simp [IntKind.bits, IntKind.signed]; omega
            have hqk2 : (q : Int) < k := by omega
            generalize hpw : 2 ^ s = pw at *
            have HOWN5 := Lib.hid hown5
            have HVS := Lib.hid hVS
            have HSUM := Lib.hid hsum
            have HX := Lib.hid hx
            have l0 := fun z : Later w5 => Later.cell hcq z
            clear hx hor hps hVS hsum hown5 hk0
            go_upto_region 14 with fail
            refine wp_region_later 13 (by kernel_rfl) (by kernel_rfl) ?_
            simp only [List.take_succ_cons, List.take_zero, List.drop_succ_cons, List.drop_zero]
            repeat (go_big_quiet_step (fail))
            refine wpQuiet_nil ?_
            rintro _ ⟨z, rfl⟩
            have l1 := l0 z
            have HB6 := Lib.hid (bstep HB5.out z.below (Nat.le_refl _))
            have HOWN6 := Lib.hid (Owns.keep HOWN5.out z.below (Nat.le_refl _))
            have HNV6 := Lib.hid (HNV5.out.keep z.below)
            have hfr6 := HOWN6.out.free q
            clear l0 hfr hcq
            generalize z.w = w6 at *
            go_wp2_with fail
            go_roundw
            case rel => exact ⟨i, R - n, xs.set q (x + pw), rfl, by omega, Owns.set1 (fun y : Nat => .int .u32 (y : Nat)) (fun _ => rfl) HOWN6.out (x + pw) (by omega), by rw [List.length_set]; exact hlen, okD_set hok q HSUM.out, by rw [HVS.out]; exact HDY.out, natV_set HNV6.out HAP5.out, HAP5.out, HB6.out.setCell (by simp; omega) _⟩
            case measure => simp [intOf]
end Go.Proofs.YtajebceanonalaaGreatDoor

namespace Go.Proofs.YtajebceanonalaaGreatDoor
set_option linter.unusedVariables false

/-- the row that the product is laid in: i digits of the one number, k of the next one's are worked in -/
structure MulS (m n L i k : Nat) (xs : List Nat) (c : Nat) : Prop where
  len : xs.length = L
  ok : okD xs
  car : c < 4294967296
  val : valD xs + c * 4294967296 ^ (i + k) = (m % 4294967296 ^ i) * n + 4294967296 ^ i * (m / 4294967296 ^ i % 4294967296) * (n % 4294967296 ^ k)
  high : ∀ j, (h : j < xs.length) → i + (digs n).length ≤ j → xs[j] = 0
/-- between two digits of the one number -/
structure MulR (m n L i : Nat) (xs : List Nat) : Prop where
  len : xs.length = L
  ok : okD xs
  val : valD xs = (m % 4294967296 ^ i) * n
  high : ∀ j, (h : j < xs.length) → i + (digs n).length ≤ j → xs[j] = 0

theorem mulR_start (m n L : Nat) : MulR m n L 0 (List.replicate L 0) :=
  ⟨List.length_replicate, fun x hx => by rw [(List.mem_replicate.1 hx).2]; decide, by rw [valD_zeros]; simp [Nat.mod_one], fun j h _ => by simp⟩
theorem mulR_in {m n L i : Nat} {xs : List Nat} (h : MulR m n L i xs) : MulS m n L i 0 xs 0 :=
  ⟨h.len, h.ok, by decide, by rw [h.val]; simp [Nat.mod_one], h.high⟩
theorem mulR_end {m n L i : Nat} {xs : List Nat} (h : MulR m n L i xs) (hi : (digs m).length ≤ i) : valD xs = m * n := by
  rw [h.val, lt_pow_len hi]

theorem mul_fits {x y l c : Nat} (hx : x < 4294967296) (hy : y < 4294967296) (hl : l < 4294967296) (hc : c < 4294967296) : x * y + l + c < 18446744073709551616 := by
  have := Nat.mul_le_mul (show x ≤ 4294967295 by omega) (show y ≤ 4294967295 by omega)
  omega
/-- a digit more -/
theorem mulS_step {m n L i k : Nat} {xs : List Nat} {c : Nat} (h : MulS m n L i k xs c) (hL : i + k < L) (hk : k < (digs n).length) (N : Nat)
    (hN : N = m / 4294967296 ^ i % 4294967296 * (n / 4294967296 ^ k % 4294967296) + xs[i + k]'(by rw [h.len]; exact hL) + c) :
    MulS m n L i (k + 1) (xs.set (i + k) (N % 4294967296)) (N / 4294967296) ∧ N < 18446744073709551616 := by
  have hl : i + k < xs.length := by rw [h.len]; exact hL
  have hx := Nat.mod_lt (m / 4294967296 ^ i) (show 0 < 4294967296 by decide)
  have hy := Nat.mod_lt (n / 4294967296 ^ k) (show 0 < 4294967296 by decide)
  have hlt := h.ok xs[i + k] (List.getElem_mem _)
  have hset := valD_set xs (i + k) hl (N % 4294967296)
  have hfit := mul_fits hx hy hlt h.car
  rw [← hN] at hfit
  refine ⟨⟨by rw [List.length_set]; exact h.len, okD_set h.ok _ (Nat.mod_lt _ (by decide)), by omega, ?_, ?_⟩, hfit⟩
  · rw [pow_split n k, ← Nat.add_assoc, Nat.pow_succ 4294967296 (i + k), Nat.mul_add, ← Nat.add_assoc, ← h.val]
    have hp : 4294967296 ^ i * (m / 4294967296 ^ i % 4294967296) * (4294967296 ^ k * (n / 4294967296 ^ k % 4294967296)) = 4294967296 ^ (i + k) * (m / 4294967296 ^ i % 4294967296 * (n / 4294967296 ^ k % 4294967296)) := by
      rw [Nat.pow_add, Nat.mul_mul_mul_comm]
    rw [hp]
    generalize 4294967296 ^ (i + k) = p at *
    generalize m / 4294967296 ^ i % 4294967296 * (n / 4294967296 ^ k % 4294967296) = xy at *
    generalize xs[i + k] = l at *
    have e1 := Nat.mod_add_div N 4294967296
    have e2 : p * (N % 4294967296) + N / 4294967296 * (p * 4294967296) = p * N := by
      conv => rhs; rw [← e1]
      rw [Nat.mul_add, Nat.mul_left_comm (N / 4294967296), Nat.mul_comm (N / 4294967296) 4294967296]
    have e3 : p * N = p * xy + p * l + c * p := by rw [hN, Nat.mul_add, Nat.mul_add, Nat.mul_comm c p]
    omega
  · intro j hj hij
    rw [List.length_set] at hj
    rw [List.getElem_set_ne (by omega)]
    exact h.high j hj hij
/-- a row is through -/
theorem mulS_out {m n L i : Nat} {xs : List Nat} {c : Nat} (h : MulS m n L i (digs n).length xs c) (hL : i + (digs n).length < L) :
    MulR m n L (i + 1) (xs.set (i + (digs n).length) c) := by
  have hl : i + (digs n).length < xs.length := by rw [h.len]; exact hL
  have hset := valD_set xs (i + (digs n).length) hl c
  rw [h.high _ hl (Nat.le_refl _), Nat.mul_zero, Nat.add_zero, Nat.mul_comm _ c, h.val, lt_pow_len (Nat.le_refl _)] at hset
  refine ⟨by rw [List.length_set]; exact h.len, okD_set h.ok _ h.car, ?_, ?_⟩
  · rw [hset, pow_split m i, Nat.add_mul]
  · intro j hj hij
    rw [List.length_set] at hj
    rw [List.getElem_set_ne (by omega)]
    exact h.high j hj (by omega)
theorem mulS_out' {m n L i J : Nat} {xs : List Nat} {c : Nat} (hJ : (digs n).length = J) (h : MulS m n L i J xs c) (hL : i + J < L) : MulR m n L (i + 1) (xs.set (i + J) c) := by
  subst hJ; exact mulS_out h hL
end Go.Proofs.YtajebceanonalaaGreatDoor

namespace Go.Proofs.YtajebceanonalaaGreatDoor
set_option linter.unusedVariables false
open Go.RowKit

theorem u64N (a : Nat) (h : a < 18446744073709551616) : IntKind.u64.wrap (a : Int) = (a : Int) := by unfold IntKind.wrap; simp [IntKind.bits, IntKind.signed]; omega
theorem u32mod (a : Nat) : IntKind.u32.wrap (a : Int) = ((a % 4294967296 : Nat) : Int) := by unfold IntKind.wrap; simp [IntKind.bits, IntKind.signed]

set_option maxRecDepth 100000 in
set_option maxHeartbeats 4000000 in
theorem times_any (m n : Nat) (a b : Option Addr) (ca cb : Nat) (hm : (digs m).length ≤ 100000) (hn : (digs n).length ≤ 100000) (w : World) (hs : SlD w a ca (digs m)) (ht : SlD w b cb (digs n)) :
    Calls Tryz.prog 25 #[.slice a (digs m).length ca, .slice b (digs n).length cb] w (RetNat w (m * n)) := by
  have HS := Lib.hid hs
  have HT := Lib.hid ht
  clear hs ht
  generalize hK : (digs m).length = K at *
  generalize hJ : (digs n).length = J at *
  have HK := Lib.hid hK
  have HJ := Lib.hid hJ
  clear hK hJ
  go_enter Tryz.func25, Tryz.ntmps25
  go_wp2_with fail
  go_loopw [5, 6] (fun v i wr => ∃ k : Nat, i = .int .i64 (k : Nat) ∧ k ≤ K + J ∧ Owns wr w.heap.size 103 1 enW v (List.replicate k 0) ∧ Below w.heap.size w wr) (fun _ i _ => K + J - (intOf i).toNat)
  case atStart => exact ⟨0, rfl, Nat.zero_le _, Owns.nil _ _ _ _ _, Below.refl _ _⟩
  case round =>
    obtain ⟨k, rfl, hk, hown, hb⟩ := hrel
    by_cases hkK : (k : Int) < (K : Int) + J
    · go_wp2_with (at_builtin; go_loud (refine wpList_append_elem words_ty (List.replicate k 0) 0 hown hb (Nat.le_refl _) (by simp; omega) ?_ (hone := by simp [enW, Value.oneCell'])))
      intro v' w2 hown2 hb2
      clear hown hb
      go_wp2_with fail
      go_roundw
      case rel => exact ⟨k + 1, by go_num, by omega, by rw [List.replicate_succ']; exact hown2, hb2⟩
      case measure => simp [intOf]; omega
    · obtain rfl : k = K + J := by omega
      obtain ⟨aq, cq, rfl, _⟩ := hown.shape
      rw [List.length_replicate] at *
      go_wp2_with fail
      go_loopw [7] (fun i wr => ∃ (k : Nat) (xs : List Nat), i = .int .i64 (k : Nat) ∧ k ≤ K ∧ Owns wr w.heap.size 103 1 enW (.slice aq (K + J) cq) xs ∧ MulR m n (K + J) k xs ∧ Below w.heap.size w wr) (fun i _ => K - (intOf i).toNat)
      case atStart => exact ⟨0, List.replicate (K + J) 0, rfl, Nat.zero_le _, hown, mulR_start m n _, hb⟩
      case round =>
        clear hown hb
        obtain ⟨i, xs, rfl, hi, hown, hR, hb⟩ := hrel
        have HR := Lib.hid hR
        clear hR
        by_cases hiK : (i : Int) < K
        · have hiK' : i < K := by omega
          go_wp2_with fail
          go_loopw [8, 9] (fun c x wr => ∃ (k cy : Nat) (xs : List Nat), x = .int .i64 (k : Nat) ∧ c = .int .u64 (cy : Nat) ∧ k ≤ J ∧ Owns wr w.heap.size 103 1 enW (.slice aq (K + J) cq) xs ∧ MulS m n (K + J) i k xs cy ∧ Below w.heap.size w wr) (fun _ x _ => J - (intOf x).toNat)
          case atStart => exact ⟨0, 0, xs, rfl, rfl, Nat.zero_le _, hown, mulR_in HR.out, hb⟩
          case round =>
            clear hown hb HR xs
            obtain ⟨k, cy, xs, rfl, rfl, hk, hown, hS, hb⟩ := hrel
            have HS2 := Lib.hid hS
            clear hS
            by_cases hkJ : (k : Int) < J
            · have hkJ' : k < J := by omega
              have hlen := HS2.out.len
              obtain ⟨ga, oa, rfl, _, hca⟩ := SlD.at (HS.out.keep hb (Nat.le_refl _)) (show i < (digs m).length by rw [HK.out]; exact hiK')
              obtain ⟨gb, ob, rfl, _, hcb⟩ := SlD.at (HT.out.keep hb (Nat.le_refl _)) (show k < (digs n).length by rw [HJ.out]; exact hkJ')
              have hda : (digs m)[i]'(by rw [HK.out]; exact hiK') = m / 4294967296 ^ i % 4294967296 := by
                rw [← digit_digs, List.getElem?_eq_getElem (by rw [HK.out]; exact hiK')]; rfl
              have hdb : (digs n)[k]'(by rw [HJ.out]; exact hkJ') = n / 4294967296 ^ k % 4294967296 := by
                rw [← digit_digs, List.getElem?_eq_getElem (by rw [HJ.out]; exact hkJ')]; rfl
              rw [hda] at hca
              rw [hdb] at hcb
              clear hda hdb
              obtain ⟨g, cg, hsl, hgb, hglt, hcap, hcm⟩ := hown.block (by rw [hlen]; omega)
              rw [hlen] at hsl
              simp only [Value.slice.injEq, true_and] at hsl
              obtain ⟨rfl, rfl⟩ := hsl
              have hfr := hown.free (i + k)
              obtain ⟨_, _, hge, _, hcq⟩ := SlD.at hown.sl.2 (show i + k < xs.length by omega)
              simp only [Option.some.injEq, Addr.mk.injEq, and_true] at hge
              obtain ⟨rfl, rfl⟩ := hge
              rw [Nat.zero_add] at hcq
              have hstep := mulS_step HS2.out (show i + k < K + J by omega) (show k < (digs n).length by rw [HJ.out]; exact hkJ') _ rfl
              have x1 := Nat.mod_lt (m / 4294967296 ^ i) (show 0 < 4294967296 by decide)
              have x2 := Nat.mod_lt (n / 4294967296 ^ k) (show 0 < 4294967296 by decide)
              have x3 := HS2.out.ok xs[i + k] (List.getElem_mem _)
              have x4 := HS2.out.car
              have x5 := mul_fits x1 x2 x3 x4
              have x6 := Nat.mul_le_mul (Nat.le_of_lt_succ x1) (Nat.le_of_lt_succ x2)
              have v1 : ((m / 4294967296 ^ i % 4294967296 : Nat) : Int) * ((n / 4294967296 ^ k % 4294967296 : Nat) : Int) = ((m / 4294967296 ^ i % 4294967296 * (n / 4294967296 ^ k % 4294967296) : Nat) : Int) := by simp
              generalize m / 4294967296 ^ i % 4294967296 * (n / 4294967296 ^ k % 4294967296) = p at *
              generalize m / 4294967296 ^ i % 4294967296 = x at *
              generalize n / 4294967296 ^ k % 4294967296 = y at *
              generalize xs[i + k] = l at *
              have e1 : IntKind.u32.wrap ((p : Int) + (l : Int) + (cy : Int)) = (((p + l + cy) % 4294967296 : Nat) : Int) := by unfold IntKind.wrap; simp [IntKind.bits, IntKind.signed]
              have e2 : ((p : Int) + (l : Int) + (cy : Int)) / 4294967296 = (((p + l + cy) / 4294967296 : Nat) : Int) := by omega
              have hlo : (p + l + cy) % 4294967296 < 4294967296 := Nat.mod_lt _ (by decide)
              have i1 : (p : Int) ≤ 18446744065119617025 := by omega
              have i2 : (p : Int) + l + cy ≤ 18446744073709551615 := by omega
              have i3 : (p : Int) + l ≤ 18446744073709551615 := by omega
              have HST := Lib.hid hstep
              clear hstep x5 x6
              generalize (p + l + cy) % 4294967296 = lo at *
              generalize (p + l + cy) / 4294967296 = hi at *
              have HLO := Lib.hid hlo
              have HOWN := Lib.hid hown
              clear hlo hown
              go_wp2_with fail
              go_quiet (fail)
              go_wp2_with fail
              go_roundw
              case rel => exact ⟨k + 1, hi, xs.set (i + k) lo, by go_num, rfl, by omega, Owns.set1 (fun y : Nat => .int .u32 (y : Nat)) (fun _ => rfl) (HOWN.out.keep (below_drewN (Below.refl _ _) _) (Nat.le_refl _)) lo (by omega), HST.out.1, (below_drewN hb _).setCell (by simp; omega) _⟩
              case measure => simp [intOf]; omega
            · obtain rfl : k = J := by omega
              have hlen := HS2.out.len
              obtain ⟨g, cg, hsl, hgb, hglt, hcap, hcm⟩ := hown.block (by rw [hlen]; omega)
              rw [hlen] at hsl
              simp only [Value.slice.injEq, true_and] at hsl
              obtain ⟨rfl, rfl⟩ := hsl
              have hfr := hown.free (i + k)
              obtain ⟨_, _, hge, _, hcq⟩ := SlD.at hown.sl.2 (show i + k < xs.length by omega)
              simp only [Option.some.injEq, Addr.mk.injEq, and_true] at hge
              obtain ⟨rfl, rfl⟩ := hge
              rw [Nat.zero_add] at hcq
              generalize xs[i + k] = l at *
              have hcar := HS2.out.car
              have hout := mulS_out' HJ.out HS2.out (by omega)
              have HOUT := Lib.hid hout
              have HOWN := Lib.hid hown
              clear hout hown
              go_wp2_with fail
              go_roundw
              case rel => exact ⟨i + 1, xs.set (i + k) cy, by go_num, by omega, Owns.set1 (fun y : Nat => .int .u32 (y : Nat)) (fun _ => rfl) HOWN.out cy (by omega), HOUT.out, hb.setCell (by simp; omega) _⟩
              case measure => simp [intOf]; omega
        · obtain rfl : i = K := by omega
          obtain ⟨g, cg, hsl, hsx⟩ := hown.shape
          rw [HR.out.len] at hsl
          simp only [Value.slice.injEq, true_and] at hsl
          obtain ⟨rfl, rfl⟩ := hsl
          have ct := trim_any xs HR.out.ok aq cq _ hsx
          rw [HR.out.len, mulR_end HR.out (Nat.le_of_eq HK.out)] at ct
          have HF := Lib.hid (fun kk => fresh_of_owns hown kk)
          clear hown
          go_wp2_with fail
          refine ct.mono ?_
          rintro e w1 ⟨kk, rfl, hnv, rfl⟩
          have HNV := Lib.hid hnv
          clear hnv ct
          go_wp2_with fail
          go_ret
          exact ⟨_, rfl, HNV.out, HF.out _, hb⟩
end Go.Proofs.YtajebceanonalaaGreatDoor

namespace Go.Proofs.YtajebceanonalaaGreatDoor
set_option linter.unusedVariables false
open Go.RowKit

def enByte (b : UInt8) : List Value := [.int .u8 (b.toNat : Int)]
theorem enByte_len (b : UInt8) : (enByte b).length = 1 := rfl
theorem flat_byte : IsFlat Tryz.prog 5 1 enByte (fun _ => True) := by
  refine ⟨by kernel_rfl, fun _ => rfl, ?_⟩
  intro H enc w base spare held fuel cs x hx
  obtain ⟨n, rfl, _, wf⟩ := DataW.trod_int Tryz.underlying5 hx
  have hb := u8_bd wf
  obtain ⟨m, rfl⟩ := Int.eq_ofNat_of_zero_le hb.1
  refine ⟨UInt8.ofNat m, trivial, ?_⟩
  have : (UInt8.ofNat m).toNat = m := by rw [UInt8.toNat_ofNat']; omega
  simp [enByte, this]

theorem bytes_ty : SlTy Tryz.prog 91 5 1 1 := SlTy.mk' (.int .u8 0) Tryz.underlying91 (by kernel_rfl) rfl (by decide) (by decide)

abbrev SlY (w : World) (a : Option Addr) (cap : Nat) (l : List UInt8) : Prop := SlOf w enByte 1 a cap l
theorem SlY.at {w : World} {a : Option Addr} {cap : Nat} {l : List UInt8} (h : SlY w a cap l) {k : Nat} (hk : k < l.length) : ∃ b o, a = some ⟨b, o, none⟩ ∧ b < w.heap.size ∧ w.cell? ⟨b, o + k, none⟩ = some (.int .u8 (l[k].toNat : Int)) :=
  SlOf.cell1 h (fun x => .int .u8 (x.toNat : Int)) (fun _ => rfl) hk

end Go.Proofs.YtajebceanonalaaGreatDoor
