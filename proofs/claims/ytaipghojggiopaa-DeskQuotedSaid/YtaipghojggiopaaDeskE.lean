/-
  The walk of DeskQuoted.
-/
import Derived.Test.YtaipghojggiopaaDeskD
import Derived.Test.YtaipghojggiopaaPick
namespace Go.Proofs.Ytaipghojggiopaa
set_option linter.unusedVariables false
open Go.RowKit

def exL : List UInt8 := [97, 32, 34, 34, 9, 98, 35, 99]
theorem ex_words : wordsOf exL = some [[97], [], [98, 35, 99]] := by
  unfold wordsOf exL
  simp only [List.length_cons, List.length_nil]
  rw [wordsN, if_neg (by decide), if_neg (by decide), if_neg (by decide)]
  rw [show ([97, 32, 34, 34, 9, 98, 35, 99] : List UInt8).takeWhile (fun x => !blankB x) = [97] from by decide, show ([97, 32, 34, 34, 9, 98, 35, 99] : List UInt8).dropWhile (fun x => !blankB x) = [32, 34, 34, 9, 98, 35, 99] from by decide]
  rw [wordsN, if_pos (by decide), wordsN, if_neg (by decide), if_neg (by decide), if_pos (by decide), unq34]
  simp only
  rw [if_neg (by decide), wordsN, if_pos (by decide), wordsN, if_neg (by decide), if_neg (by decide), if_neg (by decide)]
  rw [show ([98, 35, 99] : List UInt8).takeWhile (fun x => !blankB x) = [98, 35, 99] from by decide, show ([98, 35, 99] : List UInt8).dropWhile (fun x => !blankB x) = [] from by decide]
  rfl

theorem lensN_app (a b : List (List UInt8)) : lensN (a ++ b) = lensN a + lensN b := by simp [lensN]
theorem str_app (A B : List UInt8) : (⟨A.toArray⟩ : ByteArray) ++ ⟨B.toArray⟩ = ⟨(A ++ B).toArray⟩ := by
  have h : ∀ (a b : ByteArray), a.data = b.data → a = b := fun a b e => by cases a; cases b; simp at e; rw [e]
  refine h _ _ ?_
  rw [ByteArray.data_append]
  simp
theorem lineN_snoc (k : Nat) (ws : List (List UInt8)) (x : List UInt8) : lineN k (ws ++ [x]) = lineN k ws ++ (32 :: List.replicate k 9) ++ quoteN x := by simp [lineN]
theorem lineN_len (k : Nat) (hk : k ≤ 2) (ws : List (List UInt8)) : (lineN k ws).length ≤ 5 * lensN ws := by
  induction ws with
  | nil => simp [lineN, lensN]
  | cons x ws ih =>
    have e : lineN k (x :: ws) = (32 :: (List.replicate k 9 ++ quoteN x)) ++ lineN k ws := by simp [lineN]
    have e2 : lensN (x :: ws) = (x.length + 1) + lensN ws := by simp [lensN]
    have h := quoteB_len x
    rw [e, e2]
    simp only [List.length_append, List.length_cons, List.length_replicate, quoteN, List.length_nil]
    omega

set_option maxRecDepth 100000 in
set_option maxHeartbeats 2000000 in
theorem deskQuoted_walk (l : List (List UInt8)) (a : Option Addr) (cap : Nat) (n : Int) (hn : -9223372036854775808 ≤ n ∧ n ≤ 9223372036854775807) (w : World) (hs : SlT w a cap l) :
    Calls Try.prog 3 #[.slice a l.length cap, .int .i64 n] w fun e w' => e = .returned (.bool true) ∧ Below w.heap.size w w' := by
  have h1 := hs.len
  go_enter Try.func3, Try.ntmps3
  go_wp2_with fail
  refine (words_any exL (by decide) _).mono ?_
  rintro e w1 ⟨v, err, rfl, hb1, hpost⟩
  rw [ex_words] at hpost
  obtain ⟨rfl, ho⟩ := hpost
  obtain ⟨a1, c1, rfl, hs1⟩ := ho.shape
  go_wp2_with fail
  have hlit : SlT (w1.alloc (.cells #[.string ⟨#[97]⟩, .string ⟨#[]⟩, .string ⟨#[98, 35, 99]⟩] 9)) (some ⟨w1.heap.size, 0, none⟩) 3 [[97], [], [98, 35, 99]] := SlOf.lit w1 enStrL 1 (fun _ => rfl) _ _ _ 3 rfl rfl (by decide)
  have hb2 := (Below.refl w1.heap.size w1).alloc (Nat.le_refl _) (.cells #[.string ⟨#[97]⟩, .string ⟨#[]⟩, .string ⟨#[98, 35, 99]⟩] 9)
  have hs2 := hs1.keep hb2 (Nat.le_refl _)
  have hb3 := bstep hb1 hb2 (Nat.le_refl _)
  clear ho hs1 hb1 hb2
  generalize w1.alloc (.cells #[.string ⟨#[97]⟩, .string ⟨#[]⟩, .string ⟨#[98, 35, 99]⟩] 9) = w2 at *
  refine (sameTexts_any [[97], [], [98, 35, 99]] 3 3 rfl rfl _ _ _ _ _ hs2 hlit).mono ?_
  rintro e w3 ⟨rfl, hb4⟩
  have hb5 := bstep hb3 hb4 (Nat.le_refl _)
  clear hb3 hb4 hlit hs2
  go_wp2_with fail
  refine (wide_any l a cap _ (hs.keep hb5 (Nat.le_refl _))).mono ?_
  rintro e w4 ⟨⟨b, rfl, hlens⟩, hb6⟩
  have hb7 := bstep hb5 hb6 (Nat.le_refl _)
  clear hb5 hb6
  cases b
  · have hle := hlens rfl
    clear hlens
    obtain ⟨K, hK⟩ : ∃ K, K = pickN n 3 := ⟨_, rfl⟩
    have hK3 : K ≤ 2 := by have := pickN_lt n 3 (by decide); omega
    have cp := pick_fn n hn 3 (by decide) (by decide)
    rw [← hK] at cp
    clear hK
    have HLE := Lib.hid hle
    clear hle
    go_wp2_with fail
    go_loopw [7, 8] (fun v x wr => ∃ i : Nat, i ≤ l.length ∧ x = .int .i64 (i : Nat) ∧ v = .string ⟨(lineN K (l.take i)).toArray⟩ ∧ Below w.heap.size w wr) (fun _ x _ => l.length - (intOf x).toNat)
    case atStart => exact ⟨0, Nat.zero_le _, rfl, rfl, hb7⟩
    case round =>
      clear hb7
      obtain ⟨i, hi, rfl, rfl, hb⟩ := hrel
      have hll := lineN_len K hK3 (l.take i)
      have hsum : lensN (l.take i) ≤ lensN l := by
        have h := lensN_app (l.take i) (l.drop i)
        rw [List.take_append_drop] at h
        omega
      have hlt1 : (lineN K (l.take i)).length < 5242880 := by have := HLE.out; omega
      have HLN := Lib.hid hlt1
      by_cases hlt : (i : Int) < l.length
      · have hlt' : i < l.length := by omega
        have HS : Hid (lineN K (l.take (i + 1)) = lineN K (l.take i) ++ (32 :: List.replicate K 9) ++ quoteN l[i]) := Lib.hid (by rw [List.take_succ_eq_append_getElem hlt', lineN_snoc])
        clear hll hsum
        generalize lineN K (l.take i) = ln at *
        have hap : (⟨ln.toArray⟩ : ByteArray) ++ ⟨#[32]⟩ = ⟨(ln ++ [32]).toArray⟩ := str_app ln [32]
        go_wp2_with fail
        go_loopw [7, 9] (fun v x wr => ∃ k : Nat, k ≤ K ∧ x = .int .i64 (k : Nat) ∧ v = .string ⟨(ln ++ 32 :: List.replicate k 9).toArray⟩ ∧ Below w.heap.size w wr) (fun _ x _ => K - (intOf x).toNat)
        case atStart => exact ⟨0, Nat.zero_le _, rfl, rfl, hb⟩
        case round =>
          clear hb hap
          obtain ⟨k, hk, rfl, rfl, hb⟩ := hrel
          have hl2 : (ln ++ 32 :: List.replicate k 9).length < 5242890 := by have := HLN.out; simp; omega
          have HL2 := Lib.hid hl2
          have HR : Hid ((ln ++ 32 :: List.replicate k 9) ++ [9] = ln ++ 32 :: List.replicate (k + 1) 9) := Lib.hid (by rw [List.append_assoc, List.cons_append, List.replicate_succ'])
          have HK2 : Hid (k = K → ln ++ 32 :: List.replicate k 9 = ln ++ 32 :: List.replicate K 9) := Lib.hid (fun h => by rw [h])
          generalize ln ++ 32 :: List.replicate k 9 = lk at *
          have hap : (⟨lk.toArray⟩ : ByteArray) ++ ⟨#[9]⟩ = ⟨(lk ++ [9]).toArray⟩ := str_app lk [9]
          go_wp2_with fail
          refine (cp _).mono ?_
          rintro e w6 ⟨rfl, rfl⟩
          by_cases hkK : (k : Int) < K
          · go_wp2_with fail
            go_roundw
            case rel => exact ⟨k + 1, by omega, by go_num, by rw [HR.out], hb⟩
            case measure => simp [intOf]; omega
          · have hkk := HK2.out (by omega)
            obtain ⟨ba, oa, rfl, hba, hc⟩ := SlT.at (hs.keep hb (Nat.le_refl _)) hlt'
            have HSX := Lib.hid (show lineN K (l.take (i + 1)) = lk ++ quoteN l[i] by rw [HS.out, hkk])
            have hlx : l[i].length < 1048576 := by
              have h := lensN_app (l.take i) (l.drop i)
              rw [List.take_append_drop, List.drop_eq_getElem_cons hlt'] at h
              have h2 := HLE.out
              simp only [lensN, List.map_cons, List.sum_cons] at h h2
              omega
            have hqn : (quoteN l[i]).length ≤ 4 * l[i].length + 2 := by have := quoteB_len l[i]; simp [quoteN]; omega
            have cq := quote_any l[i] (by omega)
            have hap2 := str_app lk (quoteN l[i])
            clear hkk hap HS HR HK2
            generalize l[i] = x at *
            have HQN : Hid ((quoteN x).length < 4194400) := Lib.hid (by omega)
            generalize quoteN x = qx at *
            go_wp2_with fail
            refine (cq _).mono ?_
            rintro e w7 ⟨rfl, hb8⟩
            have hb9 := bstep hb hb8 (Nat.le_refl _)
            have hq3 := HQN.out
            clear hb hb8 cq hc
            go_wp2_with fail
            go_roundw
            case rel => exact ⟨i + 1, by omega, by go_num, by rw [HSX.out], hb9⟩
            case measure => simp [intOf]; omega
      · have hi' : i = l.length := by omega
        have HW : Hid (wordsOf (lineN K (l.take i)) = some l) := Lib.hid (by rw [hi', List.take_length]; unfold wordsOf; rw [words_line K l [] _ (Nat.lt_succ_self _)]; rfl)
        clear hll hsum
        generalize lineN K (l.take i) = ln at *
        go_wp2_with fail
        refine (words_any ln (by omega) _).mono ?_
        rintro e w7 ⟨v, err, rfl, hb8, hpost⟩
        rw [HW.out] at hpost
        obtain ⟨rfl, ho⟩ := hpost
        obtain ⟨a7, c7, rfl, hs7⟩ := ho.shape
        have hb9 := bstep hb hb8 (Nat.le_refl _)
        have hs8 := hs.keep hb9 (Nat.le_refl _)
        clear ho hb hb8
        go_wp2_with fail
        refine (sameTexts_any l _ _ rfl rfl _ _ _ _ _ hs7 hs8).mono ?_
        rintro e w8 ⟨rfl, hb10⟩
        go_wp2_with fail
        go_ret
        exact ⟨rfl, bstep hb9 hb10 (Nat.le_refl _)⟩
  · go_wp2_with fail
    go_ret
    exact ⟨rfl, hb7⟩

theorem slT_of {w : World} {a : Option Addr} {cap : Nat} (xs : List ByteArray) (h : Sl w a xs.length cap 1 (xs.flatMap enStr)) : SlT w a cap (xs.map fun s => s.data.toList) := by
  have e : (xs.map fun s : ByteArray => s.data.toList).flatMap enStrL = xs.flatMap enStr := by
    rw [List.flatMap_map]
    rfl
  unfold SlT SlOf
  rw [List.length_map, e]
  exact h

theorem deskQuoted_walk' (xs : List ByteArray) (a : Option Addr) (cap : Nat) (n : Int) (hn : -9223372036854775808 ≤ n ∧ n ≤ 9223372036854775807) (w : World) (h : Sl w a xs.length cap 1 (xs.flatMap enStr)) :
    Calls Try.prog 3 #[.slice a xs.length cap, .int .i64 n] w fun e w' => e = .returned (.bool true) ∧ Below w.heap.size w w' := by
  have := deskQuoted_walk (xs.map fun s => s.data.toList) a cap n hn w (slT_of xs h)
  rwa [List.length_map] at this
end Go.Proofs.Ytaipghojggiopaa
