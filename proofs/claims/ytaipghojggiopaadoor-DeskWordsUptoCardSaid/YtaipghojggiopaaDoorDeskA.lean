/-
  Contracts of desk's isBlank, hex, unquote.
-/
import Derived.Test.YtaipghojggiopaaDoorRows
import Derived.Test.YtaipghojggiopaaDoorBaseB
import Derived.Test.YtaipghojggiopaaDoorDeskM
import Derived.Test.YtaipghojggiopaaDoorByteK
import Derived.Test.YtaipghojggiopaaDoorBaseC
import Derived.Laws.IdiomStrings
import Derived.Deep.RegionWith
import Derived.Deep.RegionLaw
namespace Go.Proofs.YtaipghojggiopaaDoor
set_option linter.unusedVariables false
open Go.RowKit

theorem ret_nat {k : IntKind} {a b : Int} (h : a = b) : Ending.returned (.int k a) = .returned (.int k b) := by rw [h]
theorem u8_beq (c : UInt8) (k : Nat) (hk : k < 256) : ((c.toNat : Int) == (k : Int)) = (c == UInt8.ofNat k) := by
  rw [Bool.eq_iff_iff, beq_iff_eq, beq_iff_eq]
  constructor
  · intro h
    have h2 : c.toNat = k := by omega
    rw [← h2]; simp
  · intro h
    rw [h, UInt8.toNat_ofNat_of_lt' hk]

set_option maxHeartbeats 400000 in
theorem isBlank_any (c : UInt8) (w : World) : Calls Tryd.prog 48 #[.int .u8 c.toNat] w fun e w' => e = .returned (.bool (blankB c)) ∧ w' = w := by
  have q1 : ((c.toNat : Int) == 32) = (c == 32) := u8_beq c 32 (by decide)
  have q2 : ((c.toNat : Int) == 9) = (c == 9) := u8_beq c 9 (by decide)
  have q3 : ((c.toNat : Int) == 13) = (c == 13) := u8_beq c 13 (by decide)
  unfold blankB
  generalize (c == 32) = b1 at *
  generalize (c == 9) = b2 at *
  generalize (c == 13) = b3 at *
  cases b1 <;> cases b2 <;> cases b3
  all_goals
    go_enter Tryd.func48, Tryd.ntmps48
    go_wp2
    go_ret
    exact ⟨rfl, rfl⟩

set_option maxHeartbeats 1000000 in
theorem hexd_any (c : UInt8) (w : World) : Calls Tryd.prog 63 #[.int .u8 c.toNat] w fun e w' => e = .returned (.int .u8 (hexB c : Nat)) ∧ w' = w := by
  have hc := c.toNat_lt
  unfold hexB
  generalize c.toNat = n at *
  by_cases a1 : (48 : Int) ≤ n
  all_goals by_cases a2 : (n : Int) ≤ 57
  all_goals by_cases a3 : (97 : Int) ≤ n
  all_goals by_cases a4 : (n : Int) ≤ 102
  all_goals by_cases a5 : (65 : Int) ≤ n
  all_goals by_cases a6 : (n : Int) ≤ 70
  all_goals first
    | omega
    | (go_enter Tryd.func63, Tryd.ntmps63
       go_wp2
       go_ret
       refine ⟨ret_nat ?_, rfl⟩
       repeat' split
       all_goals omega)

theorem u8_ne {c : UInt8} {k : Nat} (hk : k < 256) (h : c ≠ UInt8.ofNat k) : ((c.toNat : Int) == (k : Int)) = false := by
  rw [u8_beq c k hk]; simpa using h
theorem drop_at (L : List UInt8) (i : Nat) (h : i < L.length) : L.drop i = L[i] :: L.drop (i + 1) := List.drop_eq_getElem_cons h

/-- a slice of bytes of the call's own, as a string -/
theorem owns_string {P : Program} {src dst e : TypeId} (hs : P.underlying src = some (.slice e)) (he : P.underlying e = some (.int .u8)) (hd : P.underlying dst = some .string)
    {w : World} {base : Nat} {v : Value} {l : List UInt8} (h : Owns w base e 1 enByte v l) : (convert src dst v).run P w = .ok (.string ⟨l.toArray⟩) w := by
  rcases h.2 with ⟨hv, h0⟩ | ⟨g, cap, cur, hv, _⟩
  · have : l = [] := List.length_eq_zero_iff.1 h0
    subst this
    rw [hv, run_convert_bytes_string w src dst e none 0 0 hs he hd]
    rfl
  · rw [hv] at h ⊢
    refine run_convert_bytes_back w src dst e ⟨g, 0, none⟩ cap l hs he hd fun j hj => ?_
    obtain ⟨b, o, e1, _, hc⟩ := SlOf.cell1 h.sl.2 (fun x : UInt8 => .int .u8 (x.toNat : Int)) (fun _ => rfl) hj
    cases e1
    rw [Addr.add_lit]
    exact hc

theorem hex_or : ∀ p q : Fin 16, bits BinOp.or IntKind.u8 (IntKind.u8.wrap ((p.val : Int) * 16)) (q.val : Int) = (((UInt8.ofNat (p.val * 16 + q.val)).toNat : Nat) : Int) := by decide +kernel

def unqV (n : Nat) : Option (List UInt8 × List UInt8) → Value
  | some (t, r) => .tuple #[.string ⟨t.toArray⟩, .int .i64 ((n - r.length : Nat) : Int), .bool true]
  | none => .tuple #[.string ⟨#[]⟩, .int .i64 0, .bool false]

set_option maxRecDepth 100000 in
set_option maxHeartbeats 4000000 in
theorem unquote_any (L : List UInt8) (hL : L.length ≤ 1000000000) (h0 : 0 < L.length) (w : World) :
    Calls Tryd.prog 49 #[.string ⟨L.toArray⟩] w fun e w' => e = .returned (unqV L.length (unqN [] (L.drop 1))) ∧ Below w.heap.size w w' := by
  obtain ⟨uq, huq⟩ : ∃ u, u = unqN [] (L.drop 1) := ⟨_, rfl⟩
  rw [← huq]
  go_enter Tryd.func49, Tryd.ntmps49
  go_wp2_with fail
  go_loopw [5, 6] (fun v x wr => ∃ (i : Nat) (acc : List UInt8), 1 ≤ i ∧ i ≤ L.length ∧ acc.length ≤ i ∧ x = .int .i64 (i : Nat) ∧ Below w.heap.size w wr ∧ Owns wr w.heap.size 5 1 enByte v acc ∧ uq = unqN acc (L.drop i)) (fun _ x _ => L.length - (intOf x).toNat)
  case atStart => exact ⟨1, [], Nat.le_refl _, h0, Nat.zero_le _, rfl, Below.refl _ _, Owns.nil _ _ _ _ _, huq⟩
  case round =>
    clear huq
    obtain ⟨i, acc, hi1, hi, hal, rfl, hb, hown, hu⟩ := hrel
    obtain ⟨av, cv, rfl, hsv⟩ := hown.shape
    have HU := Lib.hid hu
    clear hu
    by_cases hlt : (i : Int) < L.length
    · have hlt' : i < L.length := by omega
      have HD := Lib.hid (drop_at L i hlt')
      have hget : (⟨L.toArray⟩ : ByteArray)[i]'hlt' = L[i] := rfl
      obtain ⟨c, hc⟩ : ∃ c, c = L[i] := ⟨_, rfl⟩
      rw [← hc] at hget HD
      clear hc
      by_cases c34 : c = 34
      · subst c34
        have hconv := owns_string (P := Tryd.prog) Tryd.underlying108 Tryd.underlying5 Tryd.underlying9 hown
        have HE : Hid ((L.length - (L.drop (i + 1)).length : Nat) = i + 1) := Lib.hid (by rw [List.length_drop]; omega)
        go_wp2_with fail
        refine bodyPost_ret (v := .tuple #[.string ⟨acc.toArray⟩, .int .i64 ((i : Int) + 1), .bool true]) (by simp [results, Tryd.results49, go_sem]) rfl ⟨?_, hb⟩
        rw [HU.out, HD.out, unq34]
        show _ = Ending.returned (.tuple #[.string ⟨acc.toArray⟩, .int .i64 ((L.length - (L.drop (i + 1)).length : Nat) : Int), .bool true])
        rw [HE.out]
        rfl
      · have n34 : ((c.toNat : Int) == 34) = false := u8_ne (k := 34) (by decide) c34
        by_cases c10 : c = 10
        · subst c10
          go_wp2_with fail
          exact bodyPost_ret (v := .tuple #[.string ⟨#[]⟩, .int .i64 0, .bool false]) (by simp [results, Tryd.results49, go_sem]) rfl ⟨by rw [HU.out, HD.out, unq10]; rfl, hb⟩
        · have n10 : ((c.toNat : Int) == 10) = false := u8_ne (k := 10) (by decide) c10
          by_cases c92 : c = 92
          · subst c92
            by_cases hlen : (i : Int) + 1 = L.length
            · have hq : ((i : Int) + 1 == (L.length : Int)) = true := by rw [beq_iff_eq]; exact hlen
              have HN : Hid (L.drop (i + 1) = []) := Lib.hid (List.drop_of_length_le (by omega))
              go_wp2_with fail
              exact bodyPost_ret (v := .tuple #[.string ⟨#[]⟩, .int .i64 0, .bool false]) (by simp [results, Tryd.results49, go_sem]) rfl ⟨by rw [HU.out, HD.out, HN.out, unqE]; rfl, hb⟩
            · have hq : ((i : Int) + 1 == (L.length : Int)) = false := by rw [beq_eq_false_iff_ne]; exact hlen
              have hlt2 : i + 1 < L.length := by omega
              have HD2 := Lib.hid (drop_at L (i + 1) hlt2)
              have hget2 : (⟨L.toArray⟩ : ByteArray)[i + 1]'hlt2 = L[i + 1] := rfl
              obtain ⟨d, hd⟩ : ∃ d, d = L[i + 1] := ⟨_, rfl⟩
              rw [← hd] at hget2 HD2
              clear hd
              by_cases d34 : d = 34
              · subst d34
                go_wp2_with (at_builtin; go_loud (refine wpList_append_elem bytes_ty acc 34 hown hb (Nat.le_refl _) (by omega) ?_ (hone := by simp [enByte, Value.oneCell'])))
                intro v' w1 hown1 hb1
                clear hown hb hsv
                go_wp2
                go_roundw
                case rel => exact ⟨i + 2, acc ++ [34], by omega, by omega, by rw [List.length_append]; simp; omega, by go_num, hb1, hown1, by rw [HU.out, HD.out, HD2.out, unqQ _ _ _ (.inl rfl)]⟩
                case measure => simp [intOf]; omega
              · have m34 : ((d.toNat : Int) == 34) = false := u8_ne (k := 34) (by decide) d34
                by_cases d92 : d = 92
                · subst d92
                  go_wp2_with (at_builtin; go_loud (refine wpList_append_elem bytes_ty acc 92 hown hb (Nat.le_refl _) (by omega) ?_ (hone := by simp [enByte, Value.oneCell'])))
                  intro v' w1 hown1 hb1
                  clear hown hb hsv
                  go_wp2
                  go_roundw
                  case rel => exact ⟨i + 2, acc ++ [92], by omega, by omega, by rw [List.length_append]; simp; omega, by go_num, hb1, hown1, by rw [HU.out, HD.out, HD2.out, unqQ _ _ _ (.inr rfl)]⟩
                  case measure => simp [intOf]; omega
                · have m92 : ((d.toNat : Int) == 92) = false := u8_ne (k := 92) (by decide) d92
                  by_cases d110 : d = 110
                  · subst d110
                    go_wp2_with (at_builtin; go_loud (refine wpList_append_elem bytes_ty acc 10 hown hb (Nat.le_refl _) (by omega) ?_ (hone := by simp [enByte, Value.oneCell'])))
                    intro v' w1 hown1 hb1
                    clear hown hb hsv
                    go_wp2
                    go_roundw
                    case rel => exact ⟨i + 2, acc ++ [10], by omega, by omega, by rw [List.length_append]; simp; omega, by go_num, hb1, hown1, by rw [HU.out, HD.out, HD2.out, unqL]⟩
                    case measure => simp [intOf]; omega
                  · have m110 : ((d.toNat : Int) == 110) = false := u8_ne (k := 110) (by decide) d110
                    by_cases d120 : d = 120
                    · subst d120
                      by_cases h3 : (L.length : Int) ≤ (i : Int) + 3
                      · have HS : Hid ((L.drop (i + 1 + 1)).length < 2) := Lib.hid (by rw [List.length_drop]; omega)
                        go_wp2_with fail
                        exact bodyPost_ret (v := .tuple #[.string ⟨#[]⟩, .int .i64 0, .bool false]) (by simp [results, Tryd.results49, go_sem]) rfl ⟨by rw [HU.out, HD.out, HD2.out, unqS _ _ HS.out]; rfl, hb⟩
                      · have hlt3 : i + 2 < L.length := by omega
                        have hlt4 : i + 3 < L.length := by omega
                        have HD3 := Lib.hid (drop_at L (i + 2) hlt3)
                        have HD4 := Lib.hid (drop_at L (i + 3) hlt4)
                        have hget3 : (⟨L.toArray⟩ : ByteArray)[i + 1 + 1]'hlt3 = L[i + 2] := rfl
                        have hget4 : (⟨L.toArray⟩ : ByteArray)[i + 1 + 2]'hlt4 = L[i + 3] := rfl
                        obtain ⟨x, hx⟩ : ∃ x, x = L[i + 2] := ⟨_, rfl⟩
                        obtain ⟨y, hy⟩ : ∃ y, y = L[i + 3] := ⟨_, rfl⟩
                        rw [← hx] at hget3 HD3
                        rw [← hy] at hget4 HD4
                        clear hx hy
                        have cx := hexd_any x
                        have cy := hexd_any y
                        have HX := Lib.hid (unqX acc (L.drop (i + 4)) x y)
                        have HY := Lib.hid (unqY acc (L.drop (i + 4)) x y)
                        obtain ⟨p, hp⟩ : ∃ p, p = hexB x := ⟨_, rfl⟩
                        obtain ⟨q, hq2⟩ : ∃ q, q = hexB y := ⟨_, rfl⟩
                        rw [← hp] at cx
                        rw [← hq2] at cy
                        rw [← hp, ← hq2] at HX HY
                        clear hp hq2
                        go_wp2_with fail
                        refine (cx _).mono ?_
                        rintro e w' ⟨rfl, rfl⟩
                        by_cases hp15 : (p : Int) > 15
                        · have hbad := HY.out (.inl (by omega))
                          have HBAD := Lib.hid hbad
                          clear hbad HX HY
                          go_wp2_with fail
                          exact bodyPost_ret (v := .tuple #[.string ⟨#[]⟩, .int .i64 0, .bool false]) (by simp [results, Tryd.results49, go_sem]) rfl ⟨by rw [HU.out, HD.out, HD2.out, HD3.out, HD4.out, HBAD.out]; rfl, hb⟩
                        · go_wp2_with fail
                          refine (cy _).mono ?_
                          rintro e w' ⟨rfl, rfl⟩
                          by_cases hq15 : (q : Int) > 15
                          · have hbad := HY.out (.inr (by omega))
                            have HBAD := Lib.hid hbad
                            clear hbad HX HY
                            go_wp2_with fail
                            exact bodyPost_ret (v := .tuple #[.string ⟨#[]⟩, .int .i64 0, .bool false]) (by simp [results, Tryd.results49, go_sem]) rfl ⟨by rw [HU.out, HD.out, HD2.out, HD3.out, HD4.out, HBAD.out]; rfl, hb⟩
                          · have hgood := HX.out (by omega) (by omega)
                            have HG := Lib.hid hgood
                            clear hgood HX HY
                            have hw1 : IntKind.i64.wrap ((i : Int) + 1 + 1) = (i : Int) + 1 + 1 := by unfold IntKind.wrap; simp [IntKind.bits, IntKind.signed]; omega
                            have hw2 : IntKind.i64.wrap ((i : Int) + 1 + 2) = (i : Int) + 1 + 2 := by unfold IntKind.wrap; simp [IntKind.bits, IntKind.signed]; omega
                            have HBIT := Lib.hid (hex_or ⟨p, by omega⟩ ⟨q, by omega⟩)
                            have ht1 : ((i : Int) + 1 + 1).toNat = i + 1 + 1 := by omega
                            have ht2 : ((i : Int) + 1 + 2).toNat = i + 1 + 2 := by omega
                            go_wp2_with fail
                            refine wp_region_held_drew (S := (fun (w' : World) => Below w.heap.size w w')) (by kernel_rfl) hb.drew (fun hHeld => ?_)
                            refine held_take 0 (v := ?_) rfl (by kernel_rfl) (by kernel_rfl) (by kernel_rfl) (fun _ _ _ h => h) (by assumption) ?_ ?_
                            rotate_left
                            · first | (refine Or.inr ⟨?_, ?_⟩ <;> rfl) | (refine Or.inl ⟨by rfl, ?_⟩; intro w hSw; (try dsimp only at hSw); first | (go_simp; simp only [ht1, ht2, hget3, hget4]; with_reducible rfl) | (go_simp; done) | (go_simp; with_reducible rfl))
                            try simp only [Act.put, List.setIfInBounds_toArray, List.set_cons_zero, List.set_cons_succ]
                            refine held_take 1 (v := ?_) rfl (by kernel_rfl) (by kernel_rfl) (by kernel_rfl) (fun _ _ _ h => h) (by assumption) ?_ ?_
                            rotate_left
                            · first | (refine Or.inr ⟨?_, ?_⟩ <;> rfl) | (refine Or.inl ⟨by rfl, ?_⟩; intro w hSw; (try dsimp only at hSw); first | (go_simp; simp only [ht1, ht2, hget3, hget4]; with_reducible rfl) | (go_simp; done) | (go_simp; with_reducible rfl))
                            try simp only [Act.put, List.setIfInBounds_toArray, List.set_cons_zero, List.set_cons_succ]
                            refine held_take 2 (v := ?_) rfl (by kernel_rfl) (by kernel_rfl) (by kernel_rfl) (fun _ _ _ h => h) (by assumption) ?_ ?_
                            rotate_left
                            · first | (refine Or.inr ⟨?_, ?_⟩ <;> rfl) | (refine Or.inl ⟨by rfl, ?_⟩; intro w hSw; (try dsimp only at hSw); first | (go_simp; simp only [ht1, ht2, hget3, hget4]; with_reducible rfl) | (go_simp; done) | (go_simp; with_reducible rfl))
                            try simp only [Act.put, List.setIfInBounds_toArray, List.set_cons_zero, List.set_cons_succ]
                            refine held_take 3 (v := ?_) rfl (by kernel_rfl) (by kernel_rfl) (by kernel_rfl) (fun _ _ _ h => h) (by assumption) ?_ ?_
                            rotate_left
                            · first | (refine Or.inr ⟨?_, ?_⟩ <;> rfl) | (refine Or.inl ⟨by rfl, ?_⟩; intro w hSw; (try dsimp only at hSw); first | (go_simp; simp only [ht1, ht2, hget3, hget4]; with_reducible rfl) | (go_simp; done) | (go_simp; with_reducible rfl))
                            try simp only [Act.put, List.setIfInBounds_toArray, List.set_cons_zero, List.set_cons_succ]
                            refine held_take 4 (v := ?_) rfl (by kernel_rfl) (by kernel_rfl) (by kernel_rfl) (fun _ _ _ h => h) (by assumption) ?_ ?_
                            rotate_left
                            · first | (refine Or.inr ⟨?_, ?_⟩ <;> rfl) | (refine Or.inl ⟨by rfl, ?_⟩; intro w hSw; (try dsimp only at hSw); first | (go_simp; simp only [ht1, ht2, hget3, hget4]; with_reducible rfl) | (go_simp; done) | (go_simp; with_reducible rfl))
                            try simp only [Act.put, List.setIfInBounds_toArray, List.set_cons_zero, List.set_cons_succ]
                            refine held_take 7 (v := ?_) rfl (by kernel_rfl) (by kernel_rfl) (by kernel_rfl) (fun _ _ _ h => h) (by assumption) ?_ ?_
                            rotate_left
                            · first | (refine Or.inr ⟨?_, ?_⟩ <;> rfl) | (refine Or.inl ⟨by rfl, ?_⟩; intro w hSw; (try dsimp only at hSw); first | (go_simp; simp only [ht1, ht2, hget3, hget4]; with_reducible rfl) | (go_simp; done) | (go_simp; with_reducible rfl))
                            try simp only [Act.put, List.setIfInBounds_toArray, List.set_cons_zero, List.set_cons_succ]
                            refine held_take 8 (v := ?_) rfl (by kernel_rfl) (by kernel_rfl) (by kernel_rfl) (fun _ _ _ h => h) (by assumption) ?_ ?_
                            rotate_left
                            · first | (refine Or.inr ⟨?_, ?_⟩ <;> rfl) | (refine Or.inl ⟨by rfl, ?_⟩; intro w hSw; (try dsimp only at hSw); first | (go_simp; simp only [ht1, ht2, hget3, hget4]; with_reducible rfl) | (go_simp; done) | (go_simp; with_reducible rfl))
                            try simp only [Act.put, List.setIfInBounds_toArray, List.set_cons_zero, List.set_cons_succ]
                            refine held_take 9 (v := ?_) rfl (by kernel_rfl) (by kernel_rfl) (by kernel_rfl) (fun _ _ _ h => h) (by assumption) ?_ ?_
                            rotate_left
                            · first | (refine Or.inr ⟨?_, ?_⟩ <;> rfl) | (refine Or.inl ⟨by rfl, ?_⟩; intro w hSw; (try dsimp only at hSw); first | (go_simp; simp only [ht1, ht2, hget3, hget4]; with_reducible rfl) | (go_simp; done) | (go_simp; with_reducible rfl))
                            try simp only [Act.put, List.setIfInBounds_toArray, List.set_cons_zero, List.set_cons_succ]
                            refine held_take 10 (v := ?_) rfl (by kernel_rfl) (by kernel_rfl) (by kernel_rfl) (fun _ _ _ h => h) (by assumption) ?_ ?_
                            rotate_left
                            · first | (refine Or.inr ⟨?_, ?_⟩ <;> rfl) | (refine Or.inl ⟨by rfl, ?_⟩; intro w hSw; (try dsimp only at hSw); first | (go_simp; simp only [ht1, ht2, hget3, hget4]; with_reducible rfl) | (go_simp; done) | (go_simp; with_reducible rfl))
                            try simp only [Act.put, List.setIfInBounds_toArray, List.set_cons_zero, List.set_cons_succ]
                            refine held_call 5 rfl (by kernel_rfl) (fun K hK => ?_)
                            go_simp
                            refine (cx _).mono ?_
                            rintro e w' ⟨rfl, rfl⟩
                            refine hK.out _ _ ?_ (fun hHeld => ?_)
                            · exact hHeld
                            clear hK K
                            try simp only [Act.put, List.setIfInBounds_toArray, List.set_cons_zero, List.set_cons_succ]
                            refine held_take 6 (v := ?_) rfl (by kernel_rfl) (by kernel_rfl) (by kernel_rfl) (fun _ _ _ h => h) (by assumption) ?_ ?_
                            rotate_left
                            · first | (refine Or.inr ⟨?_, ?_⟩ <;> rfl) | (refine Or.inl ⟨by rfl, ?_⟩; intro w hSw; (try dsimp only at hSw); first | (go_simp; simp only [ht1, ht2, hget3, hget4]; with_reducible rfl) | (go_simp; done) | (go_simp; with_reducible rfl))
                            try simp only [Act.put, List.setIfInBounds_toArray, List.set_cons_zero, List.set_cons_succ]
                            refine held_call 11 rfl (by kernel_rfl) (fun K hK => ?_)
                            go_simp
                            refine (cy _).mono ?_
                            rintro e w' ⟨rfl, rfl⟩
                            refine hK.out _ _ ?_ (fun hHeld => ?_)
                            · exact hHeld
                            clear hK K
                            try simp only [Act.put, List.setIfInBounds_toArray, List.set_cons_zero, List.set_cons_succ]
                            refine held_take 12 (v := ?_) rfl (by kernel_rfl) (by kernel_rfl) (by kernel_rfl) (fun _ _ _ h => h) (by assumption) ?_ ?_
                            rotate_left
                            · first | (refine Or.inr ⟨?_, ?_⟩ <;> rfl) | (refine Or.inl ⟨by rfl, ?_⟩; intro w hSw; (try dsimp only at hSw); first | (go_simp; simp only [ht1, ht2, hget3, hget4]; with_reducible rfl) | (go_simp; done) | (go_simp; with_reducible rfl))
                            try simp only [Act.put, List.setIfInBounds_toArray, List.set_cons_zero, List.set_cons_succ]
                            refine held_call 13 rfl (by kernel_rfl) (fun K hK => ?_)
                            go_simp
                            refine hK.out _ _ ?_ (fun hHeld => ?_)
                            · exact (hb.alloc hb.size _).drew
                            clear hK K
                            try simp only [Act.put, List.setIfInBounds_toArray, List.set_cons_zero, List.set_cons_succ]
                            refine held_call 14 rfl (by kernel_rfl) (fun K hK => ?_)
                            refine step_append_elem bytes_ty acc (UInt8.ofNat (p * 16 + q)) (w0 := w) (base := w.heap.size) (g := _) ((hown.alloc _).drew) ((hb.alloc hb.size _).drew) (Nat.le_refl _) (by omega) (heap_alloc_new _ _) (fun z' w3 hz3 hb3 hg3 hv3 => ?_) (hy := by rw [HBIT.out]; rfl) (hone := by simp [enByte, Value.oneCell'])
                            refine hK.out _ _ ?_ (fun hHeld => ?_)
                            · exact hb3
                            clear hK K
                            try simp only [Act.put, List.setIfInBounds_toArray, List.set_cons_zero, List.set_cons_succ]
                            refine held_take 15 (v := ?_) rfl (by kernel_rfl) (by kernel_rfl) (by kernel_rfl) (fun _ _ _ h => h) (by assumption) ?_ ?_
                            rotate_left
                            · first | (refine Or.inr ⟨?_, ?_⟩ <;> rfl) | (refine Or.inl ⟨by rfl, ?_⟩; intro w hSw; (try dsimp only at hSw); first | (go_simp; done) | (go_simp; with_reducible rfl))
                            try simp only [Act.put, List.setIfInBounds_toArray, List.set_cons_zero, List.set_cons_succ]
                            refine wpAnyH_done (by kernel_rfl) ?_ _
                            clear hown hb hsv hw1 hw2 ht1 ht2 hget3 hget4
                            go_wp2_with fail
                            go_roundw
                            case rel => exact ⟨i + 4, acc ++ [UInt8.ofNat (p * 16 + q)], by omega, by omega, by rw [List.length_append]; simp; omega, by go_num, hb3, hz3, by rw [HU.out, HD.out, HD2.out, HD3.out, HD4.out, HG.out]⟩
                            case measure => simp [intOf]; omega
                    · have m120 : ((d.toNat : Int) == 120) = false := u8_ne (k := 120) (by decide) d120
                      go_wp2_with fail
                      exact bodyPost_ret (v := .tuple #[.string ⟨#[]⟩, .int .i64 0, .bool false]) (by simp [results, Tryd.results49, go_sem]) rfl ⟨by rw [HU.out, HD.out, HD2.out, unqO _ _ _ d34 d92 d110 d120]; rfl, hb⟩
          · have n92 : ((c.toNat : Int) == 92) = false := u8_ne (k := 92) (by decide) c92
            go_wp2_with (at_builtin; go_loud (refine wpList_append_elem bytes_ty acc c hown hb (Nat.le_refl _) (by omega) ?_ (hone := by simp [enByte, Value.oneCell'])))
            intro v' w1 hown1 hb1
            clear hown hb hsv
            go_wp2
            go_roundw
            case rel => exact ⟨i + 1, acc ++ [c], by omega, by omega, by rw [List.length_append]; simp; omega, by go_num, hb1, hown1, by rw [HU.out, HD.out, unqC _ _ _ c34 c10 c92]⟩
            case measure => simp [intOf]; omega
    · have HN : Hid (L.drop i = []) := Lib.hid (List.drop_of_length_le (by omega))
      go_wp2_with fail
      exact bodyPost_ret (v := .tuple #[.string ⟨#[]⟩, .int .i64 0, .bool false]) (by simp [results, Tryd.results49, go_sem]) rfl ⟨by rw [HU.out, HN.out, unqN.eq_def]; rfl, hb⟩
end Go.Proofs.YtaipghojggiopaaDoor
