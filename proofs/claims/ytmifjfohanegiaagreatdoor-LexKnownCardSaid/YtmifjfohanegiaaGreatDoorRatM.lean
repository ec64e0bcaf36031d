/-
  Plain mathematics of fractions. (No program here.)
-/
namespace Go.Proofs.YtmifjfohanegiaaGreatDoor
set_option linter.unusedVariables false

/-! ### the long division of two words by one (Knuth's D) -/

theorem digit_iff (B y1 y0 u u1 q r : Nat) (h : q * y1 + r = u) : q * (y1 * B + y0) ≤ u * B + u1 ↔ q * y0 ≤ B * r + u1 := by
  have e1 : q * (y1 * B + y0) = q * y1 * B + q * y0 := by rw [Nat.mul_add, Nat.mul_assoc]
  have e2 : u * B + u1 = q * y1 * B + (B * r + u1) := by rw [← h, Nat.add_mul, Nat.mul_comm B r, Nat.add_assoc]
  rw [e1, e2]
  omega

theorem div_of_test (N y q : Nat) (hy : 0 < y) (h1 : N / y ≤ q) (h2 : q * y ≤ N) : q = N / y := by
  have : q ≤ N / y := (Nat.le_div_iff_mul_le hy).2 h2
  omega
theorem div_lt_of_not (N y q : Nat) (hy : 0 < y) (h2 : ¬ q * y ≤ N) : N / y < q := by
  rw [Nat.div_lt_iff_lt_mul hy]
  omega

/-! ### fractions -/

def sgn (neg : Bool) (N : Nat) : Int := if neg then -(N : Int) else N
/-- N / D, which are coprime, with a sign: as one that fits. -/
def fitE (neg : Bool) (N D : Nat) : Option (Int × Int) :=
  if N = 0 then some (0, 1)
  else if 9223372036854775807 < D ∨ 9223372036854775808 < N ∨ (N = 9223372036854775808 ∧ neg = false) then none
  else some (sgn neg N, D)
def frac (neg : Bool) (N D : Nat) : Option (Int × Int) := fitE neg (N / Nat.gcd N D) (D / Nat.gcd N D)
def fracI (X : Int) (D : Nat) : Option (Int × Int) := frac (decide (X < 0)) X.natAbs D
def RightP (n d : Int) : Prop := 1 ≤ d ∧ d ≤ 9223372036854775807 ∧ -9223372036854775808 ≤ n ∧ n ≤ 9223372036854775807 ∧ Nat.gcd n.natAbs d.natAbs = 1

theorem sgn_natAbs (neg : Bool) (N : Nat) : (sgn neg N).natAbs = N := by cases neg <;> simp [sgn]
theorem sgn_mul (neg : Bool) (N M : Nat) : sgn neg (N * M) = sgn neg N * M := by
  cases neg <;> simp [sgn, Int.neg_mul]
theorem sgn_zero (neg : Bool) : sgn neg 0 = 0 := by cases neg <;> rfl

theorem frac_iff (neg : Bool) (N D : Nat) (hD : 0 < D) (n d : Int) : frac neg N D = some (n, d) ↔ RightP n d ∧ n * D = sgn neg N * d := by
  have hg : 0 < Nat.gcd N D := Nat.gcd_pos_of_pos_right N hD
  obtain ⟨n', hn⟩ := Nat.gcd_dvd_left N D
  obtain ⟨d', hd⟩ := Nat.gcd_dvd_right N D
  have hc := Nat.coprime_div_gcd_div_gcd hg
  unfold frac
  generalize hG : Nat.gcd N D = g at *
  subst hn hd
  rw [Nat.mul_div_cancel_left _ hg, Nat.mul_div_cancel_left _ hg] at hc ⊢
  have hd0 : 0 < d' := Nat.pos_of_mul_pos_left hD
  unfold fitE
  by_cases h0 : n' = 0
  · subst h0
    simp only [Nat.mul_zero, sgn_zero, Int.zero_mul]
    rw [if_pos trivial]
    constructor
    · intro h
      simp only [Option.some.injEq, Prod.mk.injEq] at h
      obtain ⟨rfl, rfl⟩ := h
      exact ⟨⟨by omega, by omega, by omega, by omega, by decide⟩, by simp⟩
    · rintro ⟨⟨h1, h2, h3, h4, h5⟩, h6⟩
      have : n = 0 := by
        rcases Int.mul_eq_zero.1 h6 with h | h
        · exact h
        · omega
      subst this
      simp only [Int.natAbs_zero, Nat.gcd_zero_left] at h5
      have : d = 1 := by omega
      subst this
      rfl
  · rw [if_neg h0]
    have key : ∀ n d : Int, 1 ≤ d → Nat.gcd n.natAbs d.natAbs = 1 → n * (g * d' : Nat) = sgn neg (g * n') * d → n = sgn neg n' ∧ d = d' := by
      intro n d h1 h5 h6
      obtain ⟨dk, rfl⟩ := Int.eq_ofNat_of_zero_le (show 0 ≤ d by omega)
      have h7 := congrArg Int.natAbs h6
      rw [Int.natAbs_mul, Int.natAbs_mul, sgn_natAbs, Int.natAbs_natCast, Int.natAbs_natCast] at h7
      rw [Int.natAbs_natCast] at h5
      have h8 : n.natAbs * d' = n' * dk := by
        have : g * (n.natAbs * d') = g * (n' * dk) := by
          rw [← Nat.mul_assoc g n' dk, ← h7]
          rw [Nat.mul_left_comm]
        exact Nat.eq_of_mul_eq_mul_left hg this
      have e1 : dk ∣ d' := Nat.Coprime.dvd_of_dvd_mul_left (m := n.natAbs) (by rw [Nat.coprime_comm]; exact h5) ⟨n', by rw [h8, Nat.mul_comm]⟩
      have e2 : d' ∣ dk := Nat.Coprime.dvd_of_dvd_mul_left (m := n') (by rw [Nat.coprime_comm]; exact hc) ⟨n.natAbs, by rw [← h8, Nat.mul_comm]⟩
      have e3 : dk = d' := Nat.dvd_antisymm e1 e2
      subst e3
      have e4 : n.natAbs = n' := Nat.eq_of_mul_eq_mul_right hd0 h8
      refine ⟨?_, rfl⟩
      have hp : (0 : Int) < ((g * dk : Nat) : Int) := by exact_mod_cast hD
      have h9 : n * (g * dk : Nat) = sgn neg n' * (g * dk : Nat) := by
        rw [h6, Nat.mul_comm g n', sgn_mul, Int.mul_assoc]
        simp
      exact Int.eq_of_mul_eq_mul_right (by omega) h9
    have self : sgn neg n' * (g * d' : Nat) = sgn neg (g * n') * (d' : Int) := by
      rw [Nat.mul_comm g n', sgn_mul, Int.mul_assoc]
      simp
    constructor
    · intro h
      split at h
      · cases h
      · rename_i hb
        simp only [Option.some.injEq, Prod.mk.injEq] at h
        obtain ⟨rfl, rfl⟩ := h
        refine ⟨⟨by omega, by omega, ?_, ?_, ?_⟩, self⟩
        · unfold sgn; split <;> omega
        · unfold sgn
          cases neg
          · simp at hb; simp only [Bool.false_eq_true, if_false]; omega
          · simp only [if_true]; omega
        · rw [sgn_natAbs, Int.natAbs_natCast]; exact hc
    · rintro ⟨⟨h1, h2, h3, h4, h5⟩, h6⟩
      obtain ⟨rfl, rfl⟩ := key n d h1 h5 h6
      rw [if_neg]
      cases neg
      · simp [sgn] at h3 h4 ⊢; omega
      · simp [sgn] at h3 h4 ⊢; omega

theorem frac_congr (neg neg' : Bool) (N D N' D' : Nat) (hD : 0 < D) (hD' : 0 < D') (h : sgn neg N * D' = sgn neg' N' * D) : frac neg N D = frac neg' N' D' := by
  have key : ∀ (a b : Option (Int × Int)), (∀ n d, a = some (n, d) ↔ b = some (n, d)) → a = b := by
    intro a b hab
    cases a with
    | none =>
      cases b with
      | none => rfl
      | some y => obtain ⟨n, d⟩ := y; exact absurd ((hab n d).2 rfl) (by simp)
    | some x => obtain ⟨n, d⟩ := x; exact ((hab n d).1 rfl).symm
  refine key _ _ fun n d => ?_
  rw [frac_iff neg N D hD, frac_iff neg' N' D' hD']
  refine and_congr_right fun hr => ?_
  have p1 : (D : Int) ≠ 0 := by omega
  have p2 : (D' : Int) ≠ 0 := by omega
  constructor
  · intro e
    have : (n * D') * D = (sgn neg' N' * d) * D := by
      calc (n * D') * D = (n * D) * D' := by rw [Int.mul_assoc, Int.mul_comm (D' : Int), Int.mul_assoc]
        _ = (sgn neg N * D') * d := by rw [e, Int.mul_assoc, Int.mul_comm d, Int.mul_assoc]
        _ = (sgn neg' N' * d) * D := by rw [h, Int.mul_assoc, Int.mul_comm (D : Int), Int.mul_assoc]
    exact Int.eq_of_mul_eq_mul_right p1 this
  · intro e
    have : (n * D) * D' = (sgn neg N * d) * D' := by
      calc (n * D) * D' = (n * D') * D := by rw [Int.mul_assoc, Int.mul_comm (D : Int), Int.mul_assoc]
        _ = (sgn neg' N' * D) * d := by rw [e, Int.mul_assoc, Int.mul_comm d, Int.mul_assoc]
        _ = (sgn neg N * d) * D' := by rw [← h, Int.mul_assoc, Int.mul_comm (D' : Int), Int.mul_assoc]
    exact Int.eq_of_mul_eq_mul_right p2 this

theorem fitE_frac (neg : Bool) (N D : Nat) (h : Nat.gcd N D = 1) : fitE neg N D = frac neg N D := by
  unfold frac
  rw [h, Nat.div_one, Nat.div_one]

theorem sgn_of (X : Int) : sgn (decide (X < 0)) X.natAbs = X := by
  unfold sgn
  split <;> rename_i h <;> simp at h <;> omega

/-- a fraction in lowest terms is the lowest form of whatever it equals -/
theorem fit_of (neg : Bool) (N D : Nat) (X : Int) (Y : Nat) (hc : Nat.gcd N D = 1) (hD : 0 < D) (hY : 0 < Y) (h : sgn neg N * Y = X * D) : fitE neg N D = fracI X Y := by
  rw [fitE_frac neg N D hc]
  unfold fracI
  refine frac_congr _ _ _ _ _ _ hD hY ?_
  rw [sgn_of]
  exact h

theorem fracI_iff (X : Int) (Y : Nat) (hY : 0 < Y) (n d : Int) : fracI X Y = some (n, d) ↔ RightP n d ∧ n * Y = X * d := by
  unfold fracI
  rw [frac_iff _ _ _ hY, sgn_of]

theorem frac_fracI (neg : Bool) (N D : Nat) (hD : 0 < D) : frac neg N D = fracI (sgn neg N) D := by
  unfold fracI
  refine frac_congr _ _ _ _ _ _ hD hD ?_
  rw [sgn_of]

/-! ### a sum in lowest terms -/

theorem cop_of (T P Q y : Nat) (h : T = P + Q ∨ P = T + Q ∨ Q = T + P) (hy : y ∣ Q) (hc : Nat.gcd P y = 1) : Nat.gcd T y = 1 := by
  have h1 : Nat.gcd T y ∣ T := Nat.gcd_dvd_left T y
  have h2 : Nat.gcd T y ∣ y := Nat.gcd_dvd_right T y
  have h3 : Nat.gcd T y ∣ Q := Nat.dvd_trans h2 hy
  have h4 : Nat.gcd T y ∣ P := by
    generalize Nat.gcd T y = c at *
    rcases h with rfl | rfl | rfl
    · rw [Nat.add_comm] at h1
      exact (Nat.dvd_add_right h3).1 h1
    · exact Nat.dvd_add h1 h3
    · exact (Nat.dvd_add_right h1).1 h3
  have h5 := Nat.dvd_gcd h4 h2
  rw [hc] at h5
  exact Nat.dvd_one.1 h5

/-- the sum's parts: the size of the numerator over the common denominator, less the common factor g -/
theorem sum_low (A B da db g T : Nat) (ha : Nat.gcd A da = 1) (hb : Nat.gcd B db = 1) (h1 : 0 < da) (h2 : 0 < db) (hg : g = Nat.gcd db da)
    (hT : T = A * (db / g) + B * (da / g) ∨ A * (db / g) = T + B * (da / g) ∨ B * (da / g) = T + A * (db / g)) (k : Nat) (hk : k = Nat.gcd T g) :
    Nat.gcd (T / k) (da / g * (db / k)) = 1 ∧ 0 < k ∧ k ∣ T ∧ 0 < da / g * (db / k) ∧ T / k * (da * db) = T * g * (da / g * (db / k)) := by
  have hg0 : 0 < g := hg ▸ Nat.gcd_pos_of_pos_left da h2
  have gd : g ∣ db := hg ▸ Nat.gcd_dvd_left db da
  have ga : g ∣ da := hg ▸ Nat.gcd_dvd_right db da
  have kT : k ∣ T := hk ▸ Nat.gcd_dvd_left T g
  have kg : k ∣ g := hk ▸ Nat.gcd_dvd_right T g
  have hk0 : 0 < k := hk ▸ Nat.gcd_pos_of_pos_right T hg0
  have hxy0 : Nat.gcd (db / g) (da / g) = 1 := by
    have := Nat.coprime_div_gcd_div_gcd (m := db) (n := da) (hg ▸ hg0)
    rw [← hg] at this
    exact this
  have hTk : Nat.gcd (T / k) (g / k) = 1 := by
    have := Nat.coprime_div_gcd_div_gcd (m := T) (n := g) (hk ▸ hk0)
    rw [← hk] at this
    exact this
  obtain ⟨x, hx⟩ := gd
  obtain ⟨y, hy⟩ := ga
  obtain ⟨t, ht⟩ := kT
  obtain ⟨e, he⟩ := kg
  have qx : db / g = x := by rw [hx, Nat.mul_div_cancel_left _ hg0]
  have qy : da / g = y := by rw [hy, Nat.mul_div_cancel_left _ hg0]
  have qt : T / k = t := by rw [ht, Nat.mul_div_cancel_left _ hk0]
  have qe : g / k = e := by rw [he, Nat.mul_div_cancel_left _ hk0]
  have qd : db / k = e * x := by rw [hx, he, Nat.mul_assoc, Nat.mul_div_cancel_left _ hk0]
  rw [qx, qy] at hT hxy0
  rw [qt, qe] at hTk
  rw [qt, qy, qd]
  have hAy : Nat.gcd A y = 1 := Nat.Coprime.coprime_dvd_right ⟨g, by rw [hy, Nat.mul_comm]⟩ ha
  have hBx : Nat.gcd B x = 1 := Nat.Coprime.coprime_dvd_right ⟨g, by rw [hx, Nat.mul_comm]⟩ hb
  have hPy : Nat.gcd (A * x) y = 1 := Nat.Coprime.mul_left hAy hxy0
  have hQx : Nat.gcd (B * y) x = 1 := Nat.Coprime.mul_left hBx (by rw [Nat.coprime_comm]; exact hxy0)
  have hTy := cop_of T (A * x) (B * y) y hT ⟨B, Nat.mul_comm _ _⟩ hPy
  have hTx := cop_of T (B * y) (A * x) x (by rcases hT with h | h | h <;> omega) ⟨A, Nat.mul_comm _ _⟩ hQx
  have tT : t ∣ T := ⟨k, by rw [ht, Nat.mul_comm]⟩
  have hty : Nat.gcd t y = 1 := Nat.Coprime.coprime_dvd_left tT hTy
  have htx : Nat.gcd t x = 1 := Nat.Coprime.coprime_dvd_left tT hTx
  have y0 : 0 < y := Nat.pos_of_ne_zero fun h => by subst h; simp at hy; omega
  have x0 : 0 < x := Nat.pos_of_ne_zero fun h => by subst h; simp at hx; omega
  have e0 : 0 < e := Nat.pos_of_ne_zero fun h => by subst h; simp at he; omega
  refine ⟨Nat.Coprime.mul_right hty (Nat.Coprime.mul_right hTk htx), hk0, ⟨t, ht⟩, Nat.mul_pos y0 (Nat.mul_pos e0 x0), ?_⟩
  rw [hy, hx, ht]
  conv => lhs; rw [he]
  rw [he]
  simp only [Nat.mul_comm, Nat.mul_left_comm]

/-- the sign and the size of a sum of two numbers with signs -/
def sumT (sa sb : Bool) (P Q : Nat) : Bool × Nat := if sa = sb then (sa, P + Q) else if P < Q then (sb, Q - P) else (sa, P - Q)
theorem sumT_cases (sa sb : Bool) (P Q : Nat) : (sumT sa sb P Q).2 = P + Q ∨ P = (sumT sa sb P Q).2 + Q ∨ Q = (sumT sa sb P Q).2 + P := by
  unfold sumT
  split
  · exact .inl rfl
  · split
    · right; right; simp; omega
    · right; left; simp; omega
theorem sumT_sgn (sa sb : Bool) (P Q : Nat) : sgn (sumT sa sb P Q).1 (sumT sa sb P Q).2 = sgn sa P + sgn sb Q := by
  unfold sumT
  by_cases h : P < Q
  · cases sa <;> cases sb <;> simp [sgn, h] <;> omega
  · cases sa <;> cases sb <;> simp [sgn, h] <;> omega

/-- a + b, or a - b, in lowest terms -/
theorem sum_frac (na da nb db : Int) (less : Bool) (ha : RightP na da) (hb : RightP nb db) (g : Nat) (hg : g = Nat.gcd db.natAbs da.natAbs) (r : Bool × Nat)
    (hr : r = sumT (decide (na < 0)) (decide (nb < 0) != less) (na.natAbs * (db.natAbs / g)) (nb.natAbs * (da.natAbs / g))) (k : Nat) (hk : k = Nat.gcd r.2 g) :
    fitE r.1 (r.2 / k) (da.natAbs / g * (db.natAbs / k)) = fracI (na * db + (if less then -nb else nb) * da) (da.natAbs * db.natAbs) := by
  obtain ⟨a1, a2, a3, a4, a5⟩ := ha
  obtain ⟨b1, b2, b3, b4, b5⟩ := hb
  have hc := sumT_cases (decide (na < 0)) (decide (nb < 0) != less) (na.natAbs * (db.natAbs / g)) (nb.natAbs * (da.natAbs / g))
  have hs := sumT_sgn (decide (na < 0)) (decide (nb < 0) != less) (na.natAbs * (db.natAbs / g)) (nb.natAbs * (da.natAbs / g))
  rw [← hr] at hc hs
  obtain ⟨c1, c2, c3, c4, c5⟩ := sum_low na.natAbs nb.natAbs da.natAbs db.natAbs g r.2 a5 b5 (by omega) (by omega) hg hc k hk
  refine fit_of _ _ _ _ _ c1 c4 (Nat.mul_pos (by omega) (by omega)) ?_
  have hg0 : 0 < g := hg ▸ Nat.gcd_pos_of_pos_left _ (by omega)
  have gd : db.natAbs / g * g = db.natAbs := Nat.div_mul_cancel (hg ▸ Nat.gcd_dvd_left _ _)
  have ga : da.natAbs / g * g = da.natAbs := Nat.div_mul_cancel (hg ▸ Nat.gcd_dvd_right _ _)
  have e1 : sgn r.1 (r.2 * g) = na * db + (if less then -nb else nb) * da := by
    rw [sgn_mul, hs, Int.add_mul, ← sgn_mul, ← sgn_mul, Nat.mul_assoc, Nat.mul_assoc, gd, ga, sgn_mul, sgn_mul, sgn_of]
    have e2 : sgn (decide (nb < 0) != less) nb.natAbs = (if less then -nb else nb) := by
      have := sgn_of nb
      cases less
      · simpa using this
      · by_cases h : nb < 0 <;> simp [h, sgn] at this ⊢ <;> omega
    rw [e2]
    have : (da.natAbs : Int) = da := by omega
    have : (db.natAbs : Int) = db := by omega
    simp only [*]
  rw [← e1, ← sgn_mul, ← sgn_mul, c5]

theorem prod_frac (neg : Bool) (an ad bn bd : Nat) (ha : Nat.gcd an ad = 1) (hb : Nat.gcd bn bd = 1) (h1 : 0 < ad) (h2 : 0 < bd) (g k : Nat) (hg : g = Nat.gcd bd an) (hk : k = Nat.gcd ad bn) :
    fitE neg (an / g * (bn / k)) (ad / k * (bd / g)) = fracI (sgn neg (an * bn)) (ad * bd) := by
  have hg0 : 0 < g := hg ▸ Nat.gcd_pos_of_pos_left _ h2
  have hk0 : 0 < k := hk ▸ Nat.gcd_pos_of_pos_left _ h1
  have c1 : Nat.gcd (bd / g) (an / g) = 1 := by
    have := Nat.coprime_div_gcd_div_gcd (m := bd) (n := an) (hg ▸ hg0)
    rw [← hg] at this
    exact this
  have c2 : Nat.gcd (ad / k) (bn / k) = 1 := by
    have := Nat.coprime_div_gcd_div_gcd (m := ad) (n := bn) (hk ▸ hk0)
    rw [← hk] at this
    exact this
  obtain ⟨x, hx⟩ : g ∣ bd := hg ▸ Nat.gcd_dvd_left _ _
  obtain ⟨y, hy⟩ : g ∣ an := hg ▸ Nat.gcd_dvd_right _ _
  obtain ⟨u, hu⟩ : k ∣ ad := hk ▸ Nat.gcd_dvd_left _ _
  obtain ⟨v, hv⟩ : k ∣ bn := hk ▸ Nat.gcd_dvd_right _ _
  rw [show bd / g = x by rw [hx, Nat.mul_div_cancel_left _ hg0], show an / g = y by rw [hy, Nat.mul_div_cancel_left _ hg0]] at c1 ⊢
  rw [show ad / k = u by rw [hu, Nat.mul_div_cancel_left _ hk0], show bn / k = v by rw [hv, Nat.mul_div_cancel_left _ hk0]] at c2 ⊢
  have x0 : 0 < x := Nat.pos_of_ne_zero fun h => by subst h; simp at hx; omega
  have u0 : 0 < u := Nat.pos_of_ne_zero fun h => by subst h; simp at hu; omega
  have c3 : Nat.gcd y u = 1 := Nat.Coprime.coprime_dvd_left ⟨g, by rw [hy, Nat.mul_comm]⟩ (Nat.Coprime.coprime_dvd_right ⟨k, by rw [hu, Nat.mul_comm]⟩ ha)
  have c4 : Nat.gcd v x = 1 := Nat.Coprime.coprime_dvd_left ⟨k, by rw [hv, Nat.mul_comm]⟩ (Nat.Coprime.coprime_dvd_right ⟨g, by rw [hx, Nat.mul_comm]⟩ hb)
  refine fit_of _ _ _ _ _ ?_ (Nat.mul_pos u0 x0) (Nat.mul_pos h1 h2) ?_
  · refine Nat.Coprime.mul_left (Nat.Coprime.mul_right c3 ?_) (Nat.Coprime.mul_right ?_ c4)
    · rw [Nat.coprime_comm]; exact c1
    · rw [Nat.coprime_comm]; exact c2
  · rw [← sgn_mul, ← sgn_mul, hy, hv, hu, hx]
    congr 1
    simp only [Nat.mul_comm, Nat.mul_left_comm]

/-! ### holding against each other, and the nearest whole number -/
def cmpI (na da nb db : Int) : Int := if na * db < nb * da then -1 else if na * db = nb * da then 0 else 1
theorem cmp_val (na da nb db : Int) (ha : 1 ≤ da) (hb : 1 ≤ db) :
    cmpI na da nb db = if (decide (na < 0) != decide (nb < 0)) = true then (if na < 0 then -1 else 1) else if na.natAbs * db.natAbs = nb.natAbs * da.natAbs then 0
      else if decide (na.natAbs * db.natAbs < nb.natAbs * da.natAbs) = decide (na < 0) then 1 else -1 := by
  obtain ⟨d, rfl⟩ := Int.eq_ofNat_of_zero_le (show 0 ≤ da by omega)
  obtain ⟨e, rfl⟩ := Int.eq_ofNat_of_zero_le (show 0 ≤ db by omega)
  have hd : 0 < (d : Int) := by omega
  have he : 0 < (e : Int) := by omega
  unfold cmpI
  by_cases h1 : na < 0
  · obtain ⟨p, hp⟩ : ∃ p : Nat, na = -(p : Int) := ⟨na.natAbs, by omega⟩
    subst hp
    have n1 := Int.mul_neg_of_neg_of_pos h1 he
    by_cases h2 : nb < 0
    · obtain ⟨q, hq⟩ : ∃ q : Nat, nb = -(q : Int) := ⟨nb.natAbs, by omega⟩
      subst hq
      simp only [Int.neg_mul, Int.natAbs_neg, Int.natAbs_natCast, h1, h2, decide_true]
      rw [← Int.natCast_mul, ← Int.natCast_mul]
      generalize p * e = P
      generalize q * d = Q
      simp only [bne_self_eq_false, Bool.false_eq_true, if_false, decide_eq_true_eq]
      repeat' split
      all_goals first | rfl | omega
    · have n2 := Int.mul_nonneg (show 0 ≤ nb by omega) (show 0 ≤ (d : Int) by omega)
      rw [if_pos (by omega), if_pos (by rw [decide_eq_true h1, decide_eq_false h2]; rfl), if_pos h1]
  · have n1 := Int.mul_nonneg (show 0 ≤ na by omega) (show 0 ≤ (e : Int) by omega)
    by_cases h2 : nb < 0
    · have n2 := Int.mul_neg_of_neg_of_pos h2 hd
      rw [if_neg (by omega), if_neg (by omega), if_pos (by simp [h1, h2]), if_neg h1]
    · obtain ⟨p, rfl⟩ := Int.eq_ofNat_of_zero_le (show 0 ≤ na by omega)
      obtain ⟨q, rfl⟩ := Int.eq_ofNat_of_zero_le (show 0 ≤ nb by omega)
      simp only [Int.natAbs_natCast, h1, h2, decide_false]
      rw [← Int.natCast_mul, ← Int.natCast_mul]
      simp only [bne_self_eq_false, Bool.false_eq_true, if_false, decide_eq_false_iff_not]
      generalize p * e = P
      generalize q * d = Q
      repeat' split
      all_goals first | rfl | omega

def roundN (A D : Nat) : Nat := (2 * A + D) / (2 * D)
def roundI (n d : Int) : Int := sgn (decide (n < 0)) (roundN n.natAbs d.natAbs)
theorem roundN_val (A D : Nat) (hD : 0 < D) : roundN A D = if 0 < A % D ∧ D - A % D ≤ A % D then A / D + 1 else A / D := by
  have h1 := Nat.div_add_mod A D
  have h2 := Nat.mod_lt A hD
  unfold roundN
  generalize A / D = q at *
  generalize A % D = r at *
  subst h1
  split
  · refine Nat.div_eq_of_lt_le ?_ ?_
    · rw [Nat.add_mul, Nat.one_mul, Nat.mul_left_comm, Nat.mul_comm q]; omega
    · rw [Nat.add_mul, Nat.add_mul, Nat.one_mul, Nat.mul_left_comm, Nat.mul_comm q]; omega
  · refine Nat.div_eq_of_lt_le ?_ ?_
    · rw [Nat.mul_left_comm, Nat.mul_comm q]; omega
    · rw [Nat.add_mul, Nat.one_mul, Nat.mul_left_comm, Nat.mul_comm q]; omega

theorem fracI_fits (X : Int) (D : Nat) (hD0 : 0 < D) (hD : D ≤ 9223372036854775807) (hX : X.natAbs ≤ 9223372036854775807) : ∃ n d, fracI X D = some (n, d) := by
  have h1 : X.natAbs / Nat.gcd X.natAbs D ≤ X.natAbs := Nat.div_le_self _ _
  have h2 : D / Nat.gcd X.natAbs D ≤ D := Nat.div_le_self _ _
  unfold fracI frac fitE
  split
  · exact ⟨_, _, rfl⟩
  · rw [if_neg (by omega)]
    exact ⟨_, _, rfl⟩
theorem sign_of {u v D e : Int} (hD : 0 < D) (he : 0 < e) (h : u * D = v * e) : (u < 0 ↔ v < 0) ∧ (u = 0 ↔ v = 0) := by
  have p1 := fun hu : u < 0 => Int.mul_neg_of_neg_of_pos hu hD
  have p2 := fun hu : 0 < u => Int.mul_pos hu hD
  have p3 := fun hv : v < 0 => Int.mul_neg_of_neg_of_pos hv he
  have p4 := fun hv : 0 < v => Int.mul_pos hv he
  have p5 : u = 0 → u * D = 0 := fun h => by rw [h, Int.zero_mul]
  have p6 : v = 0 → v * e = 0 := fun h => by rw [h, Int.zero_mul]
  rw [h] at p1 p2 p5
  generalize v * e = z at *
  omega

/-! ### the long division's loop -/
section
variable (B y1 y0 u u1 : Nat)
theorem q_lt (hB : 0 < B) (hu : u < y1 * B + y0) (h1 : u1 < B) : (u * B + u1) / (y1 * B + y0) < B := by
  rw [Nat.div_lt_iff_lt_mul (by omega)]
  have : (u + 1) * B ≤ B * (y1 * B + y0) := by rw [Nat.mul_comm B]; exact Nat.mul_le_mul_right _ hu
  rw [Nat.add_mul] at this
  omega
theorem q_start (hy : 0 < y1) (hy0 : y0 < B) (hyB : B ≤ 2 * y1) (h1 : u1 < B) (hu : u < y1 * B + y0) :
    (u * B + u1) / (y1 * B + y0) ≤ u / y1 ∧ u / y1 ≤ B + 1 ∧ u / y1 * y1 + u % y1 = u := by
  refine ⟨?_, ?_, by rw [Nat.mul_comm]; exact Nat.div_add_mod u y1⟩
  · rw [Nat.le_div_iff_mul_le hy]
    have hB : 0 < B := by omega
    have h2 : (u * B + u1) / (y1 * B + y0) * (y1 * B + y0) ≤ u * B + u1 := Nat.div_mul_le_self _ _
    generalize (u * B + u1) / (y1 * B + y0) = q at *
    have h3 : q * y1 * B < (u + 1) * B := by
      rw [Nat.mul_add, ← Nat.mul_assoc] at h2
      rw [Nat.add_mul]
      omega
    have := Nat.lt_of_mul_lt_mul_right h3
    omega
  · have : u / y1 < B + 2 := by
      rw [Nat.div_lt_iff_lt_mul hy, Nat.add_mul, Nat.mul_comm B]
      omega
    omega
theorem q_yes {q r : Nat} (hB : 0 < B) (hu : u < y1 * B + y0) (h1 : u1 < B) (hi : q * y1 + r = u) (hQ : (u * B + u1) / (y1 * B + y0) ≤ q) (ht : B ≤ q ∨ B * r + u1 < q * y0) :
    (u * B + u1) / (y1 * B + y0) ≤ q - 1 ∧ 1 ≤ q ∧ (q - 1) * y1 + (r + y1) = u := by
  have hlt : (u * B + u1) / (y1 * B + y0) < q := by
    rcases ht with h | h
    · exact Nat.lt_of_lt_of_le (q_lt B y1 y0 u u1 hB hu h1) h
    · refine div_lt_of_not _ _ _ (by omega) fun hc => ?_
      rw [digit_iff B y1 y0 u u1 q r hi] at hc
      omega
  have hq1 : 1 ≤ q := Nat.lt_of_le_of_lt (Nat.zero_le _) hlt
  refine ⟨Nat.le_sub_one_of_lt hlt, hq1, ?_⟩
  clear hQ ht hlt
  obtain ⟨p, rfl⟩ : ∃ p, q = p + 1 := ⟨q - 1, by omega⟩
  rw [Nat.add_sub_cancel, ← hi, Nat.add_mul]
  omega
theorem q_no {q r : Nat} (hy : 0 < y1 * B + y0) (hi : q * y1 + r = u) (hQ : (u * B + u1) / (y1 * B + y0) ≤ q) (ht : ¬ (B * r + u1 < q * y0)) : q = (u * B + u1) / (y1 * B + y0) :=
  div_of_test _ _ _ hy hQ ((digit_iff B y1 y0 u u1 q r hi).2 (by omega))
theorem q_break {q r : Nat} (hy : 0 < y1 * B + y0) (hi : q * y1 + r = u) (hQ : (u * B + u1) / (y1 * B + y0) ≤ q) (hq : q ≤ B) (hy0 : y0 < B) (hr : B ≤ r) : q = (u * B + u1) / (y1 * B + y0) := by
  refine q_no B y1 y0 u u1 hy hi hQ ?_
  have h1 : q * y0 ≤ B * y0 := Nat.mul_le_mul_right _ hq
  have h2 : B * y0 ≤ B * r := Nat.mul_le_mul_left _ (by omega)
  omega
end
end Go.Proofs.YtmifjfohanegiaaGreatDoor
