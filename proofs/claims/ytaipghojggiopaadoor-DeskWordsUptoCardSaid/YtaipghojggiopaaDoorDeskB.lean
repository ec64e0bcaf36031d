/-
  Contract of desk.Words.
-/
import Derived.Test.YtaipghojggiopaaDoorDeskA
import Derived.Lib.Strings
namespace Go.Proofs.YtaipghojggiopaaDoor
set_option linter.unusedVariables false
open Go.RowKit

def enStrL (l : List UInt8) : List Value := [.string ⟨l.toArray⟩]
theorem texts_ty : SlTy Tryd.prog 43 9 1 16 := SlTy.mk' (.string ⟨#[]⟩) Tryd.underlying43 (by kernel_rfl) rfl (by decide) (by decide)

/-- what is left behind the closing mark is an end of what was read -/
theorem unqN_end (acc s w r : List UInt8) (h : unqN acc s = some (w, r)) : ∃ k, r = s.drop k := by
  induction hn : s.length using Nat.strongRecOn generalizing acc s with
  | _ n ih =>
    subst hn
    rw [unqN.eq_def] at h
    split at h
    · cases h
    · rename_i c s
      split at h
      · cases h; exact ⟨1, rfl⟩
      · split at h
        · cases h
        · split at h
          · split at h
            · cases h
            · rename_i d s1
              split at h
              · obtain ⟨k, hk⟩ := ih _ (by simp; omega) _ _ h rfl; exact ⟨k + 2, by simpa using hk⟩
              · split at h
                · obtain ⟨k, hk⟩ := ih _ (by simp; omega) _ _ h rfl; exact ⟨k + 2, by simpa using hk⟩
                · split at h
                  · split at h
                    · rename_i h1 l1 s2
                      split at h
                      · cases h
                      · obtain ⟨k, hk⟩ := ih _ (by simp; omega) _ _ h rfl; exact ⟨k + 4, by simpa using hk⟩
                    · cases h
                  · cases h
          · obtain ⟨k, hk⟩ := ih _ (by simp) _ _ h rfl; exact ⟨k + 1, by simpa using hk⟩
theorem unqN_rest (acc s w r : List UInt8) (h : unqN acc s = some (w, r)) : r = s.drop (s.length - r.length) := by
  obtain ⟨k, hk⟩ := unqN_end acc s w r h
  have hl : r.length = s.length - k := by rw [hk, List.length_drop]
  by_cases hks : k ≤ s.length
  · rw [hl, show s.length - (s.length - k) = k by omega]; exact hk
  · rw [hl, show s.length - (s.length - k) = s.length by omega, List.drop_length]
    rw [hk]; exact List.drop_of_length_le (by omega)

theorem extract_mid (L : List UInt8) (i j : Nat) (hj : j ≤ L.length) : (⟨L.toArray⟩ : ByteArray).extract i j = ⟨((L.drop i).take (j - i)).toArray⟩ := by
  have h : ∀ (a b : ByteArray), a.data = b.data → a = b := fun a b e => by cases a; cases b; simp at e; rw [e]
  refine h _ _ (Array.ext' ?_)
  rw [Go.Lib.extract_data]

theorem while_split {α : Type} (p : α → Bool) (l : List α) (k : Nat) (hk : k ≤ l.length) (h1 : ∀ q (h : q < k), p (l[q]'(by omega)) = true) (h2 : ∀ h : k < l.length, p l[k] = false) : l.takeWhile p = l.take k ∧ l.dropWhile p = l.drop k := by
  induction l generalizing k with
  | nil =>
    obtain rfl : k = 0 := by simpa using hk
    exact ⟨rfl, rfl⟩
  | cons a l ih =>
    cases k with
    | zero =>
      have := h2 (by simp)
      rw [List.takeWhile_cons, List.dropWhile_cons]
      simp only [List.getElem_cons_zero] at this
      rw [this]
      exact ⟨rfl, rfl⟩
    | succ k =>
      have h0 := h1 0 (by omega)
      simp only [List.getElem_cons_zero] at h0
      have hi := ih k (by simpa using hk) (fun q hq => by simpa using h1 (q + 1) (by omega)) (fun h => by have := h2 (by simpa using h); rw [List.getElem_cons_succ] at this; exact this)
      rw [List.takeWhile_cons, List.dropWhile_cons, h0]
      simp only [if_true]
      rw [hi.1, hi.2]
      exact ⟨rfl, rfl⟩

def faultV : Value := .iface 86 (.agg #[.string ⟨#[119, 111, 114, 100, 115]⟩, .int .i64 6])
def wordsPost (w w' : World) (o : Option (List (List UInt8))) (v err : Value) : Prop := match o with
  | some ws => err = .nilIface ∧ Owns w' w.heap.size 9 1 enStrL v ws
  | none => err = faultV ∧ v = .slice none 0 0

set_option maxRecDepth 100000 in
set_option maxHeartbeats 4000000 in
theorem words_any (L : List UInt8) (hL : L.length ≤ 100000000) (w : World) :
    Calls Tryd.prog 18 #[.string ⟨L.toArray⟩] w fun e w' => ∃ v err, e = .returned (.tuple #[v, err]) ∧ Below w.heap.size w w' ∧ wordsPost w w' (wordsOf L) v err := by
  obtain ⟨uw, huw⟩ : ∃ u, u = wordsOf L := ⟨_, rfl⟩
  rw [← huw]
  go_enter Tryd.func18, Tryd.ntmps18
  go_wp2_with fail
  go_loopw [4, 5] (fun v x wr => ∃ (i : Nat) (acc : List (List UInt8)), i ≤ L.length ∧ acc.length ≤ i ∧ x = .int .i64 (i : Nat) ∧ Below w.heap.size w wr ∧ Owns wr w.heap.size 9 1 enStrL v acc ∧ uw = wordsN (L.length - i + 1) acc (L.drop i)) (fun _ x _ => L.length - (intOf x).toNat)
  case atStart => exact ⟨0, [], Nat.zero_le _, Nat.zero_le _, rfl, Below.refl _ _, Owns.nil _ _ _ _ _, huw⟩
  case round =>
    clear huw
    obtain ⟨i, acc, hi, hal, rfl, hb, hown, hu⟩ := hrel
    obtain ⟨av, cv, rfl, hsv⟩ := hown.shape
    have HU := Lib.hid hu
    clear hu
    by_cases hlt : (i : Int) < L.length
    · have hlt' : i < L.length := by omega
      have HD := Lib.hid (drop_at L i hlt')
      have hget : (⟨L.toArray⟩ : ByteArray)[i]'hlt' = L[i] := rfl
      obtain ⟨c, hc⟩ : ∃ c, c = L[i] := ⟨_, rfl⟩
      rw [← hc] at hget HD
      clear hc
      have HF : Hid (L.length - i + 1 = (L.length - (i + 1) + 1) + 1) := Lib.hid (by omega)
      go_wp2_with fail
      refine (isBlank_any c _).mono ?_
      rintro e w' ⟨rfl, rfl⟩
      obtain ⟨bl, hbl⟩ : ∃ b, b = blankB c := ⟨_, rfl⟩
      rw [← hbl]
      have HBL := Lib.hid hbl
      clear hbl
      cases bl
      · by_cases c35 : c = 35
        · subst c35
          go_wp2_with fail
          exact bodyPost_ret (v := .tuple #[.slice av acc.length cv, .nilIface]) (by simp [results, Tryd.results18, go_sem]) rfl ⟨_, _, rfl, hb, by rw [HU.out, HF.out, HD.out, wordsN, if_neg (by decide), if_pos rfl]; exact ⟨rfl, hown⟩⟩
        · have n35 : ((c.toNat : Int) == 35) = false := u8_ne (k := 35) (by decide) c35
          by_cases c34 : c = 34
          · subst c34
            have hx : (⟨L.toArray⟩ : ByteArray).extract i L.length = ⟨(L.drop i).toArray⟩ := by rw [extract_mid L i L.length (Nat.le_refl _), List.take_of_length_le (by rw [List.length_drop]; exact Nat.le_refl _)]
            have HDD : Hid ((L.drop i).drop 1 = L.drop (i + 1)) := Lib.hid (by rw [List.drop_drop])
            have hdl : (L.drop i).length = L.length - i := List.length_drop
            have HDL := Lib.hid hdl
            go_wp2_with fail
            refine (unquote_any (L.drop i) (by rw [hdl]; omega) (by rw [hdl]; omega) _).mono ?_
            rintro e w2 ⟨rfl, hb2⟩
            have hb3 := bstep hb hb2 (Nat.le_refl _)
            have hown2 := hown.keep hb2 (Nat.le_refl _)
            clear hx hdl hb hb2 hown hsv
            rw [HDD.out, HDL.out]
            cases hq : unqN [] (L.drop (i + 1)) with
            | none =>
              have HE : Hid (uw = none) := Lib.hid (by rw [HU.out, HF.out, HD.out, wordsN, if_neg (by decide), if_neg (by decide), if_pos rfl, hq])
              clear hq
              unfold unqV
              go_wp2_with fail
              exact bodyPost_ret (v := .tuple #[.slice none 0 0, faultV]) (by simp [results, Tryd.results18, go_sem]; rfl) rfl ⟨_, _, rfl, hb3, by rw [HE.out]; exact ⟨rfl, rfl⟩⟩
            | some x =>
              obtain ⟨tx, r⟩ := x
              have hrl := unqN_len _ _ _ _ hq
              rw [List.length_drop] at hrl
              have hrest := unqN_rest _ _ _ _ hq
              rw [List.length_drop, List.drop_drop, show i + 1 + (L.length - (i + 1) - r.length) = L.length - r.length by omega] at hrest
              obtain ⟨N, hN⟩ : ∃ N, N = L.length - r.length := ⟨_, rfl⟩
              rw [← hN] at hrest
              have hNi : i < N := by omega
              have hNl : N ≤ L.length := by omega
              have HNN : Hid (L.length - i - r.length = N - i) := Lib.hid (by omega)
              have HW : Hid (uw = if (match r with | [] => false | x :: _ => !blankB x) then none else wordsN (L.length - N + 1) (acc ++ [tx]) (L.drop N)) := Lib.hid (by
                rw [HU.out, HF.out, HD.out, wordsN, if_neg (by decide), if_neg (by decide), if_pos rfl, hq]
                show (if _ then none else wordsN _ _ r) = _
                rw [hrest, wordsN_fuel (L.length - (i + 1) + 1) (L.length - N + 1) _ (L.drop N) (by rw [List.length_drop]; omega) (by rw [List.length_drop]; omega)]
                generalize L.drop N = dn
                cases dn <;> rfl)
              have HR := Lib.hid hrest
              clear hq hrest hrl hN
              unfold unqV
              simp only
              rw [HNN.out]
              by_cases hNL : N = L.length
              · have hsum : (i : Int) + ((N - i : Nat) : Int) = (L.length : Int) := by omega
                have hr0 : Hid (r = []) := Lib.hid (by rw [HR.out, hNL, List.drop_length])
                go_wp2_with (at_builtin; go_loud (refine wpList_append_elem texts_ty acc tx hown2 hb3 (Nat.le_refl _) (by omega) ?_ (hone := by simp [enStrL, Value.oneCell'])))
                intro v' w5 hown5 hb5
                clear hown2 hb3
                have HW2 : Hid (uw = wordsN (L.length - N + 1) (acc ++ [tx]) (L.drop N)) := Lib.hid (by rw [HW.out, hr0.out]; rfl)
                have hnn : (i : Int) + ((N - i : Nat) : Int) = (N : Int) := by omega
                go_wp2_with fail
                go_roundw
                case rel => exact ⟨N, acc ++ [tx], hNl, by rw [List.length_append]; simp; omega, by first | rfl | (rw [hnn]; rfl) | go_num, hb5, hown5, HW2.out⟩
                case measure => simp [intOf]; omega
              · have hNL' : N < L.length := by omega
                have hsum : (i : Int) + ((N - i : Nat) : Int) = (N : Int) := by omega
                have hlN : (N : Int) < (L.length : Int) := by omega
                have hgetN : (⟨L.toArray⟩ : ByteArray)[N]'hNL' = L[N] := rfl
                have HDN := Lib.hid (drop_at L N hNL')
                obtain ⟨cn, hcn⟩ : ∃ x, x = L[N] := ⟨_, rfl⟩
                rw [← hcn] at hgetN HDN
                clear hcn
                have HW3 : Hid (uw = if !blankB cn then none else wordsN (L.length - N + 1) (acc ++ [tx]) (L.drop N)) := Lib.hid (by rw [HW.out, HR.out, HDN.out])
                go_wp2_with fail
                refine (isBlank_any cn _).mono ?_
                rintro e w3 ⟨rfl, rfl⟩
                obtain ⟨bn, hbn⟩ : ∃ b, b = blankB cn := ⟨_, rfl⟩
                rw [← hbn]
                rw [← hbn] at HW3
                clear hbn
                cases bn
                · have HE : Hid (uw = none) := Lib.hid (by rw [HW3.out]; rfl)
                  go_wp2_with fail
                  exact bodyPost_ret (v := .tuple #[.slice none 0 0, faultV]) (by simp [results, Tryd.results18, go_sem]; rfl) rfl ⟨_, _, rfl, hb3, by rw [HE.out]; exact ⟨rfl, rfl⟩⟩
                · have HW2 : Hid (uw = wordsN (L.length - N + 1) (acc ++ [tx]) (L.drop N)) := Lib.hid (by rw [HW3.out]; rfl)
                  go_wp2_with (at_builtin; go_loud (refine wpList_append_elem texts_ty acc tx hown2 hb3 (Nat.le_refl _) (by omega) ?_ (hone := by simp [enStrL, Value.oneCell'])))
                  intro v' w5 hown5 hb5
                  clear hown2 hb3
                  go_wp2_with fail
                  go_roundw
                  case rel => exact ⟨N, acc ++ [tx], hNl, by rw [List.length_append]; simp; omega, by first | rfl | (rw [hsum]; rfl) | go_num, hb5, hown5, HW2.out⟩
                  case measure => simp [intOf]; omega
          · have n34 : ((c.toNat : Int) == 34) = false := u8_ne (k := 34) (by decide) c34
            go_wp2_with fail
            obtain ⟨wq, hwq⟩ : ∃ x, x = w' := ⟨_, rfl⟩
            subst hwq
            go_loopw [9] (fun x wr => ∃ j : Nat, i ≤ j ∧ j ≤ L.length ∧ x = .int .i64 (j : Nat) ∧ wr = wq ∧ ∀ q (h1 : i ≤ q) (h2 : q < j) (h3 : q < L.length), blankB L[q] = false) (fun x _ => L.length - (intOf x).toNat)
            case atStart => exact ⟨i, Nat.le_refl _, hi, rfl, rfl, fun q h1 h2 => by omega⟩
            case round =>
              obtain ⟨j, hij, hj, rfl, rfl, hnb⟩ := hrel
              have HNB := Lib.hid hnb
              clear hnb
              by_cases hjl : (j : Int) < L.length
              · have hjl' : j < L.length := by omega
                have hgetj : (⟨L.toArray⟩ : ByteArray)[j]'hjl' = L[j] := rfl
                obtain ⟨cj, hcj⟩ : ∃ x, x = L[j] := ⟨_, rfl⟩
                rw [← hcj] at hgetj
                have HCJ := Lib.hid hcj
                clear hcj
                go_wp2_with fail
                refine (isBlank_any cj _).mono ?_
                rintro e w3 ⟨rfl, rfl⟩
                obtain ⟨bj, hbj⟩ : ∃ b, b = blankB cj := ⟨_, rfl⟩
                rw [← hbj]
                have HBJ := Lib.hid hbj
                clear hbj
                cases bj
                · go_wp2_with fail
                  go_roundw
                  case rel => exact ⟨j + 1, by omega, by omega, by go_num, trivial, fun q h1 h2 h3 => by
                    by_cases hqj : q = j
                    · subst hqj; rw [← HCJ.out]; exact HBJ.out.symm
                    · exact HNB.out q h1 (by omega) h3⟩
                  case measure => simp [intOf]; omega
                · have hji : i < j := by
                    rcases Nat.lt_or_ge i j with h | h
                    · exact h
                    · exfalso
                      obtain rfl : i = j := by omega
                      have h1 := hget.symm.trans hgetj; have h2 := HBL.out; have h3 := HBJ.out; rw [h1] at h2; rw [← h2] at h3; exact absurd h3 (by decide)
                  have hsp := while_split (fun x => !blankB x) (L.drop i) (j - i) (by rw [List.length_drop]; omega) (fun q hq => by
                    rw [List.getElem_drop]
                    have := HNB.out (i + q) (by omega) (by omega) (by omega)
                    rw [this]; rfl) (fun h => by
                    rw [List.length_drop] at h
                    rw [List.getElem_drop]
                    have e : i + (j - i) = j := by omega
                    simp only [e]
                    rw [← HCJ.out, ← HBJ.out]; rfl)
                  rw [List.drop_drop, show i + (j - i) = j by omega] at hsp
                  have HSP := Lib.hid hsp
                  have HW : Hid (uw = wordsN (L.length - j + 1) (acc ++ [(L.drop i).take (j - i)]) (L.drop j)) := Lib.hid (by
                    rw [HU.out, HF.out]
                    conv => lhs; rw [HD.out]
                    rw [wordsN, if_neg (by rw [← HBL.out]; decide), if_neg c35, if_neg c34, ← HD.out, HSP.out.1, HSP.out.2]
                    exact wordsN_fuel _ _ _ _ (by rw [List.length_drop]; omega) (by rw [List.length_drop]; omega))
                  have hx : (⟨L.toArray⟩ : ByteArray).extract i j = ⟨((L.drop i).take (j - i)).toArray⟩ := extract_mid L i j hj
                  clear hsp
                  go_wp2_with (at_builtin; go_loud (refine wpList_append_elem texts_ty acc ((L.drop i).take (j - i)) hown hb (Nat.le_refl _) (by omega) ?_ (hone := by simp [enStrL, Value.oneCell'])))
                  intro v' w5 hown5 hb5
                  clear hown hb hsv
                  go_wp2_with fail
                  go_roundw
                  case rel => exact ⟨j, acc ++ [(L.drop i).take (j - i)], hj, by rw [List.length_append]; simp; omega, rfl, hb5, hown5, HW.out⟩
                  case measure => simp [intOf]; omega
              · have hji : i < j := by
                  rcases Nat.lt_or_ge i j with h | h
                  · exact h
                  · exfalso
                    obtain rfl : i = j := by omega
                    omega
                have hsp := while_split (fun x => !blankB x) (L.drop i) (j - i) (by rw [List.length_drop]; omega) (fun q hq => by
                  rw [List.getElem_drop]
                  have := HNB.out (i + q) (by omega) (by omega) (by omega)
                  rw [this]; rfl) (fun h => by
                  rw [List.length_drop] at h
                  rw [List.getElem_drop]
                  have e : i + (j - i) = j := by omega
                  simp only [e]
                  omega)
                rw [List.drop_drop, show i + (j - i) = j by omega] at hsp
                have HSP := Lib.hid hsp
                have HW : Hid (uw = wordsN (L.length - j + 1) (acc ++ [(L.drop i).take (j - i)]) (L.drop j)) := Lib.hid (by
                  rw [HU.out, HF.out]
                  conv => lhs; rw [HD.out]
                  rw [wordsN, if_neg (by rw [← HBL.out]; decide), if_neg c35, if_neg c34, ← HD.out, HSP.out.1, HSP.out.2]
                  exact wordsN_fuel _ _ _ _ (by rw [List.length_drop]; omega) (by rw [List.length_drop]; omega))
                have hx : (⟨L.toArray⟩ : ByteArray).extract i j = ⟨((L.drop i).take (j - i)).toArray⟩ := extract_mid L i j hj
                clear hsp
                go_wp2_with (at_builtin; go_loud (refine wpList_append_elem texts_ty acc ((L.drop i).take (j - i)) hown hb (Nat.le_refl _) (by omega) ?_ (hone := by simp [enStrL, Value.oneCell'])))
                intro v' w5 hown5 hb5
                clear hown hb hsv
                go_wp2_with fail
                go_roundw
                case rel => exact ⟨j, acc ++ [(L.drop i).take (j - i)], hj, by rw [List.length_append]; simp; omega, rfl, hb5, hown5, HW.out⟩
                case measure => simp [intOf]; omega
      · go_wp2_with fail
        go_roundw
        case rel => exact ⟨i + 1, acc, by omega, by omega, by go_num, hb, hown, by rw [HU.out, HF.out, HD.out, wordsN, if_pos HBL.out.symm]⟩
        case measure => simp [intOf]; omega
    · have hi' : i = L.length := by omega
      have HN : Hid (uw = some acc) := Lib.hid (by rw [HU.out, hi', List.drop_length, Nat.sub_self]; rfl)
      go_wp2_with fail
      exact bodyPost_ret (v := .tuple #[.slice av acc.length cv, .nilIface]) (by simp [results, Tryd.results18, go_sem]) rfl ⟨_, _, rfl, hb, by rw [HN.out]; exact ⟨rfl, hown⟩⟩
end Go.Proofs.YtaipghojggiopaaDoor
