/-
  Plain facts on the words of a line: what is quoted is found again. (No program here.)
-/
namespace Go.Proofs.YtaipghojggiopaaDoor
set_option linter.unusedVariables false

def blankB (c : UInt8) : Bool := c == 32 || (c == 9 || c == 13)
/-- a digit's value; 16: it is none -/
def hexB (c : UInt8) : Nat :=
  if 48 ≤ c.toNat ∧ c.toNat ≤ 57 then c.toNat - 48
  else if 97 ≤ c.toNat ∧ c.toNat ≤ 102 then c.toNat - 97 + 10
  else if 65 ≤ c.toNat ∧ c.toNat ≤ 70 then c.toNat - 65 + 10
  else 16

/-- what is read behind an opening mark: the text, and the rest -/
def unqN (acc : List UInt8) : List UInt8 → Option (List UInt8 × List UInt8)
  | [] => none
  | c :: s =>
    if c = 34 then some (acc, s)
    else if c = 10 then none
    else if c = 92 then
      match s with
      | [] => none
      | d :: s1 =>
        if d = 34 ∨ d = 92 then unqN (acc ++ [d]) s1
        else if d = 110 then unqN (acc ++ [10]) s1
        else if d = 120 then
          match s1 with
          | h :: l :: s2 => if 15 < hexB h ∨ 15 < hexB l then none else unqN (acc ++ [UInt8.ofNat (hexB h * 16 + hexB l)]) s2
          | _ => none
        else none
    else unqN (acc ++ [c]) s
termination_by s => s.length

def wordsN (fuel : Nat) (acc : List (List UInt8)) (s : List UInt8) : Option (List (List UInt8)) :=
  match fuel with
  | 0 => none
  | fuel + 1 =>
    match s with
    | [] => some acc
    | c :: r =>
      if blankB c then wordsN fuel acc r
      else if c = 35 then some acc
      else if c = 34 then
        match unqN [] r with
        | none => none
        | some (w, rest) => if (match rest with | [] => false | x :: _ => !blankB x) then none else wordsN fuel (acc ++ [w]) rest
      else wordsN fuel (acc ++ [(c :: r).takeWhile (fun x => !blankB x)]) ((c :: r).dropWhile (fun x => !blankB x))

theorem unqN_len (acc s w r : List UInt8) (h : unqN acc s = some (w, r)) : r.length < s.length := by
  induction hn : s.length using Nat.strongRecOn generalizing acc s with
  | _ n ih =>
    subst hn
    rw [unqN.eq_def] at h
    split at h
    · cases h
    · rename_i c s
      split at h
      · cases h; simp
      · split at h
        · cases h
        · split at h
          · split at h
            · cases h
            · rename_i d s1
              split at h
              · have := ih _ (by simp; omega) _ _ h rfl; simp; omega
              · split at h
                · have := ih _ (by simp; omega) _ _ h rfl; simp; omega
                · split at h
                  · split at h
                    · split at h
                      · cases h
                      · have := ih _ (by simp; omega) _ _ h rfl; simp; omega
                    · cases h
                  · cases h
          · have := ih _ (by simp) _ _ h rfl; simp; omega

theorem dropWhile_le {α : Type} (p : α → Bool) (l : List α) : (l.dropWhile p).length ≤ l.length := by
  induction l with
  | nil => exact Nat.le_refl _
  | cons a l ih =>
    rw [List.dropWhile_cons]
    split
    · simp; omega
    · exact Nat.le_refl _

/-- enough fuel is enough -/
theorem wordsN_fuel (n k : Nat) (acc : List (List UInt8)) (s : List UInt8) (hn : s.length < n) (hk : s.length < k) : wordsN n acc s = wordsN k acc s := by
  induction n generalizing k acc s with
  | zero => omega
  | succ n ih =>
    cases k with
    | zero => omega
    | succ k =>
      unfold wordsN
      split
      · rfl
      · rename_i c r
        simp only [List.length_cons] at hn hk
        split
        · exact ih k _ _ (by omega) (by omega)
        · split
          · rfl
          · split
            · split
              · rfl
              · rename_i w rest hu
                have := unqN_len _ _ _ _ hu
                rw [ih k (acc ++ [w]) rest (by omega) (by omega)]
            · have hl : ((c :: r).dropWhile (fun x => !blankB x)).length ≤ r.length := by
                rename_i hb _ _
                rw [List.dropWhile_cons]
                split
                · have := dropWhile_le (fun x => !blankB x) r
                  omega
                · simp_all
              exact ih k _ _ (by omega) (by omega)

def wordsOf (s : List UInt8) : Option (List (List UInt8)) := wordsN (s.length + 1) [] s

def hexC (n : UInt8) : UInt8 := if n.toNat < 10 then 48 + n else 97 + n - 10
def quoteC (c : UInt8) : List UInt8 :=
  if c = 34 ∨ c = 92 then [92, c]
  else if c = 10 then [92, 110]
  else if c.toNat < 32 ∨ 126 < c.toNat then [92, 120, hexC (c / 16), hexC (c % 16)]
  else [c]
def quoteB (s : List UInt8) : List UInt8 := s.flatMap quoteC
def quoteN (s : List UInt8) : List UInt8 := 34 :: (quoteB s ++ [34])

theorem hex_back : ∀ c : UInt8, hexB (hexC (c / 16)) = c.toNat / 16 ∧ hexB (hexC (c % 16)) = c.toNat % 16 := by
  have h : ∀ n : Fin 256, hexB (hexC (UInt8.ofNat n / 16)) = n.val / 16 ∧ hexB (hexC (UInt8.ofNat n % 16)) = n.val % 16 := by decide +kernel
  intro c
  have := h ⟨c.toNat, c.toNat_lt⟩
  simpa using this

theorem unq_one (acc : List UInt8) (c : UInt8) (s : List UInt8) : unqN acc (quoteC c ++ s) = unqN (acc ++ [c]) s := by
  unfold quoteC
  split
  · rename_i h
    rw [show [92, c] ++ s = 92 :: c :: s from rfl, unqN.eq_def]
    simp only
    rw [if_neg (by decide), if_neg (by decide), if_pos (by simp), if_pos h]
  · rename_i h
    split
    · rename_i h2
      subst h2
      rw [show [92, 110] ++ s = 92 :: 110 :: s from rfl, unqN.eq_def]
      simp only
      rw [if_neg (by decide), if_neg (by decide), if_pos (by simp), if_neg (by decide), if_pos (by simp)]
    · rename_i h2
      split
      · obtain ⟨e1, e2⟩ := hex_back c
        have hc := c.toNat_lt
        rw [show [92, 120, hexC (c / 16), hexC (c % 16)] ++ s = 92 :: 120 :: hexC (c / 16) :: hexC (c % 16) :: s from rfl, unqN.eq_def]
        simp only
        rw [if_neg (by decide), if_neg (by decide), if_pos (by simp), if_neg (by decide), if_neg (by decide), if_pos (by simp), e1, e2, if_neg (by omega)]
        congr 2
        rw [show c.toNat / 16 * 16 + c.toNat % 16 = c.toNat by omega]
        simp
      · rename_i h3
        rw [show [c] ++ s = c :: s from rfl, unqN.eq_def]
        simp only
        rw [if_neg (fun e => h (.inl e)), if_neg h2, if_neg (fun e => h (.inr e))]

theorem unq_quote (acc w s : List UInt8) : unqN acc (quoteB w ++ 34 :: s) = some (acc ++ w, s) := by
  induction w generalizing acc with
  | nil =>
    rw [show quoteB [] ++ 34 :: s = 34 :: s from rfl, unqN.eq_def]
    simp
  | cons c w ih =>
    have : quoteB (c :: w) ++ 34 :: s = quoteC c ++ (quoteB w ++ 34 :: s) := by simp [quoteB]
    rw [this, unq_one, ih]
    simp

theorem unq34 (acc s : List UInt8) : unqN acc (34 :: s) = some (acc, s) := by rw [unqN.eq_def]; simp
theorem unq10 (acc s : List UInt8) : unqN acc (10 :: s) = none := by rw [unqN.eq_def]; simp
theorem unqC (acc s : List UInt8) (c : UInt8) (h1 : c ≠ 34) (h2 : c ≠ 10) (h3 : c ≠ 92) : unqN acc (c :: s) = unqN (acc ++ [c]) s := by rw [unqN.eq_def]; simp [h1, h2, h3]
theorem unqE (acc : List UInt8) : unqN acc [92] = none := by rw [unqN.eq_def]; simp
theorem unqQ (acc s : List UInt8) (d : UInt8) (h : d = 34 ∨ d = 92) : unqN acc (92 :: d :: s) = unqN (acc ++ [d]) s := by rw [unqN.eq_def]; simp [h]
theorem unqL (acc s : List UInt8) : unqN acc (92 :: 110 :: s) = unqN (acc ++ [10]) s := by rw [unqN.eq_def]; simp
theorem unqO (acc s : List UInt8) (d : UInt8) (h1 : d ≠ 34) (h2 : d ≠ 92) (h3 : d ≠ 110) (h4 : d ≠ 120) : unqN acc (92 :: d :: s) = none := by rw [unqN.eq_def]; simp [h1, h2, h3, h4]
theorem unqS (acc s : List UInt8) (h : s.length < 2) : unqN acc (92 :: 120 :: s) = none := by
  rw [unqN.eq_def]
  match s, h with
  | [], _ => simp
  | [x], _ => simp
theorem unqX (acc s : List UInt8) (h l : UInt8) (h1 : hexB h ≤ 15) (h2 : hexB l ≤ 15) : unqN acc (92 :: 120 :: h :: l :: s) = unqN (acc ++ [UInt8.ofNat (hexB h * 16 + hexB l)]) s := by
  rw [unqN.eq_def]
  simp
  omega
theorem unqY (acc s : List UInt8) (h l : UInt8) (h1 : 15 < hexB h ∨ 15 < hexB l) : unqN acc (92 :: 120 :: h :: l :: s) = none := by
  rw [unqN.eq_def]
  simp
  omega

/-- the line of quoted words: a blank and k tabs ahead of each -/
def lineN (k : Nat) (ws : List (List UInt8)) : List UInt8 := ws.flatMap fun w => 32 :: (List.replicate k 9 ++ quoteN w)

theorem words_tabs (n k : Nat) (acc : List (List UInt8)) (s : List UInt8) : wordsN (n + k) acc (List.replicate k 9 ++ s) = wordsN n acc s := by
  induction k with
  | zero => rfl
  | succ k ih =>
    rw [List.replicate_succ, List.cons_append, show n + (k + 1) = (n + k) + 1 from rfl, wordsN]
    rw [if_pos (by decide), ih]

theorem words_line (k : Nat) (ws : List (List UInt8)) (acc : List (List UInt8)) (n : Nat) (hn : (lineN k ws).length < n) : wordsN n acc (lineN k ws) = some (acc ++ ws) := by
  induction ws generalizing acc n with
  | nil =>
    obtain ⟨n, rfl⟩ : ∃ m, n = m + 1 := ⟨n - 1, by omega⟩
    simp [lineN, wordsN]
  | cons w ws ih =>
    have e : lineN k (w :: ws) = 32 :: (List.replicate k 9 ++ (34 :: (quoteB w ++ 34 :: lineN k ws))) := by simp [lineN, quoteN]
    have hlen : (lineN k (w :: ws)).length = 1 + k + 1 + (quoteB w).length + 1 + (lineN k ws).length := by rw [e]; simp; omega
    obtain ⟨n, rfl⟩ : ∃ m, n = (m + 1) + k + 1 := ⟨n - k - 2, by omega⟩
    rw [e, wordsN]
    rw [if_pos (by decide), words_tabs, wordsN]
    rw [if_neg (by decide), if_neg (by decide), if_pos (by simp), unq_quote]
    simp only [List.nil_append]
    have hb : (match lineN k ws with | [] => false | x :: _ => !blankB x) = false := by
      cases ws with
      | nil => rfl
      | cons x xs => rfl
    rw [hb, if_neg (by decide), ih _ _ (by omega)]
    simp
end Go.Proofs.YtaipghojggiopaaDoor
