/-
  Plain laws of points' bytes; PointBytes.
  Conditions: none.
-/
import Derived.Test.YtalnjdcidmkajaaPq
set_option linter.unusedVariables false
namespace Go.Proofs.Ytalnjdcidmkajaa
open Go Go.Gx
theorem add_law (k : Nat) (hk : 101 ≤ k) {a b : List Int} (ha : By a 32) (hb : By b 32) : point_Add.f k a b = some (if (okY a && okY b) = true then (enc (addQ (pY a) (pY b)), 0) else (List.replicate 32 (0 : Int), 2)) := by
  obtain ⟨r, e, _, hp⟩ := of_pt k hk ha
  obtain ⟨s, e2, _, hq⟩ := of_pt k hk hb
  unfold point_Add.f
  refine sbd e (sbd e2 ?_)
  cases ho : okY a
  · exact sbd (a := true) rfl rfl
  · cases ho2 : okY b
    · exact sbd (a := true) rfl rfl
    · obtain ⟨m, em, hm⟩ := plus_pt k (by omega) (hp ho) (hq ho2)
      exact sbd (a := false) rfl (sbf rfl (sbd em (sbd (bytes_pt k hk hm) rfl)))
theorem mul_law (k : Nat) (hk : 101 ≤ k) {a b : List Int} (ha : By a 32) (hb : By b 32) : point_Mul.f k a b = some (if okY b = true then (enc (mulQ (pY b) (fun i => (a.getD i 0).toNat) 32), 0) else (List.replicate 32 (0 : Int), 2)) := by
  obtain ⟨r, e, _, hp⟩ := of_pt k hk hb
  unfold point_Mul.f
  refine sbd e ?_
  cases ho : okY b
  · rfl
  · obtain ⟨m, em, hm⟩ := times_pt k (by omega) (hp ho) ha
    exact sbf rfl (sbd em (sbd (bytes_pt k hk hm) rfl))
theorem enc_eq {P Q : Q4} (hx : P.x * P.z ^ P2 % p = Q.x * Q.z ^ P2 % p) (hy : P.y * P.z ^ P2 % p = Q.y * Q.z ^ P2 % p) : enc P = enc Q := by
  unfold enc; rw [hx, hy]
theorem zinv (s X Z : Int) (hs : s % p ≠ 0) : s * X * (s * Z) ^ P2 % p = X * Z ^ P2 % p := by
  have h := inv_mul hs
  rw [Int.mul_pow]
  generalize s ^ P2 = s' at h ⊢
  generalize Z ^ P2 = Z' at ⊢
  rw [show s * X * (s' * Z') = s * s' * (X * Z') by rw [Int.mul_assoc, Int.mul_assoc, Int.mul_left_comm X], Int.mul_emod, h, Int.one_mul, Int.emod_emod]
/-- one factor more changes no bytes -/
theorem enc_scale {P : Q4} (s x y z t : Int) (hs : s % p ≠ 0) (ex : P.x = s * x) (ey : P.y = s * y) (ez : P.z = s * z) : enc P = enc ⟨x, y, z, t⟩ := by
  refine enc_eq ?_ ?_
  · rw [ex, ez]; exact zinv s x z hs
  · rw [ey, ez]; exact zinv s y z hs
theorem zpow_zero {z : Int} (h : z % p = 0) : z ^ P2 % p = 0 := by
  rw [← pow_emod, h, Int.zero_pow (by decide)]; rfl
theorem enc_zero {P Q : Q4} (hP : P.z % p = 0) (hQ : Q.z % p = 0) : enc P = enc Q := by
  have h1 := zpow_zero hP
  have h2 := zpow_zero hQ
  have z : ∀ x y : Int, y % p = 0 → x * y % p = 0 := fun x y h => by rw [Int.mul_emod, h, Int.mul_zero, Int.zero_emod]
  exact enc_eq (by rw [z _ _ h1, z _ _ h2]) (by rw [z _ _ h1, z _ _ h2])
theorem one_pow2 : (1 : Int) ^ P2 = 1 := Int.one_pow
/-! ### The neutral point -/
def N4' (l : Int) : Q4 := ⟨0, l, l, 0⟩
theorem nz_mul {x y : Int} (hx : x % p ≠ 0) (hy : y % p ≠ 0) : x * y % p ≠ 0 := fun h => by rcases mod_mul_zero h with h | h; exact hx h; exact hy h
theorem nz_neg {x : Int} (hx : x % p ≠ 0) : -x % p ≠ 0 := fun h => hx (by
  have := Int.emod_eq_zero_of_dvd (Int.dvd_neg.2 (Int.dvd_of_emod_eq_zero h))
  rwa [Int.neg_neg] at this)
theorem dbl_N (l : Int) (hl : l % p ≠ 0) : ∃ m, dblQ (N4' l) = N4' m ∧ m % p ≠ 0 := by
  refine ⟨-(l * l * (l * l)), ?_, nz_neg (nz_mul (nz_mul hl hl) (nz_mul hl hl))⟩
  unfold dblQ N4'
  simp only [Q4.mk.injEq]
  refine ⟨?_, ?_, ?_, ?_⟩ <;> grind
theorem add_NO (l : Int) (hl : l % p ≠ 0) : ∃ m, addQ (N4' l) O4 = N4' m ∧ m % p ≠ 0 := by
  refine ⟨4 * (l * l), ?_, nz_mul (by decide) (nz_mul hl hl)⟩
  unfold addQ N4' O4
  simp only [Q4.mk.injEq]
  refine ⟨?_, ?_, ?_, ?_⟩ <;> grind
theorem dbl4_N (l : Int) (hl : l % p ≠ 0) : ∃ m, dblQ (dblQ (dblQ (dblQ (N4' l)))) = N4' m ∧ m % p ≠ 0 := by
  obtain ⟨a, ea, ha⟩ := dbl_N l hl
  obtain ⟨b, eb, hb⟩ := dbl_N a ha
  obtain ⟨c, ec, hc⟩ := dbl_N b hb
  obtain ⟨d, ed, hd⟩ := dbl_N c hc
  exact ⟨d, by rw [ea, eb, ec, ed], hd⟩
theorem step_N (P : Q4) (l : Int) (hl : l % p ≠ 0) : ∃ m, step4 (tabQ P) (N4' l) 0 = N4' m ∧ m % p ≠ 0 := by
  obtain ⟨a, ea, ha⟩ := dbl4_N l hl
  obtain ⟨b, eb, hb⟩ := add_NO a ha
  refine ⟨b, ?_, hb⟩
  unfold step4
  rw [ea]
  exact eb
theorem mulQ_N (P : Q4) (bs : Nat → Nat) : ∀ n, (∀ i, i < n → bs (31 - i) = 0) → ∃ m, mulQ P bs n = N4' m ∧ m % p ≠ 0 := by
  intro n
  induction n with
  | zero => intro _; exact ⟨1, rfl, by decide⟩
  | succ n ih =>
    intro h
    obtain ⟨m, em, hm⟩ := ih fun i hi => h i (by omega)
    obtain ⟨a, ea, ha⟩ := step_N P m hm
    obtain ⟨b, eb, hb⟩ := step_N P a ha
    refine ⟨b, ?_, hb⟩
    rw [mulQ, h n (by omega), em]
    unfold byteStep
    rw [show 0 / 16 = 0 from rfl, show 0 % 16 = 0 from rfl, ea, eb]
/-- a number of one digit -/
theorem mul_digit (P : Q4) (bs : Nat → Nat) (d : Nat) (hd : d < 16) (h0 : bs 0 = d) (h : ∀ i, 0 < i → bs i = 0) : enc (mulQ P bs 32) = enc (tabQ P d) := by
  obtain ⟨m, em, hm⟩ := mulQ_N P bs 31 fun i hi => h (31 - i) (by omega)
  obtain ⟨a, ea, ha⟩ := step_N P m hm
  obtain ⟨b, eb, hb⟩ := dbl4_N a ha
  have e : mulQ P bs 32 = addQ (N4' b) (tabQ P d) := by
    rw [mulQ, em, show 31 - 31 = 0 from rfl, h0]
    unfold byteStep
    rw [show d / 16 = 0 by omega, show d % 16 = d by omega, ea]
    unfold step4
    rw [eb]
  rw [e]
  generalize tabQ P d = Q
  obtain ⟨x, y, z, t⟩ := Q
  have hP : addQ (N4' b) ⟨x, y, z, t⟩ = ⟨4 * (b * b) * z * x, 4 * (b * b) * z * y, 4 * (b * b) * z * z, 4 * (b * b) * (x * y)⟩ := by
    unfold addQ N4'
    simp only [Q4.mk.injEq]
    refine ⟨?_, ?_, ?_, ?_⟩ <;> grind
  rw [hP]
  by_cases hz : z % p = 0
  · refine enc_zero ?_ hz
    show 4 * (b * b) * z * z % p = 0
    rw [Int.mul_emod, hz, Int.mul_zero, Int.zero_emod]
  · exact enc_scale (4 * (b * b) * z) x y z t (nz_mul (nz_mul (by decide) (nz_mul hb hb)) hz) rfl rfl rfl
/-! ### Zero, and a point's bytes -/
def zeroL : List Int := (List.replicate 32 (0 : Int)).set 0 1
theorem zero_by : By zeroL 32 := (By.zero 32).set 0 (by decide)
theorem zero_low : low zeroL = zeroL := by decide
theorem zero_B : B zeroL = 1 := by decide
theorem zero_odd : isOdd zeroL = false := by decide
theorem zero_u : uY zeroL = 0 := by unfold uY; rw [zero_low, zero_B]; rfl
theorem R1_zero (v : Int) : R1 0 v = 0 := by
  have h : R0 0 v = 0 := by rw [R0_def]; generalize (0 * (v * v * v) * (v * v * v) * v) ^ P58 = z; simp
  unfold R1
  rw [h]; simp
theorem zero_ok : okY zeroL = true := by
  unfold okY
  rw [zero_u, R1_zero, zero_low, zero_B, zero_odd, decide_eq_true (show (1 : Int) < p by decide)]
  simp
theorem zero_p : pY zeroL = ⟨0, 1, 1, 0⟩ := by
  have h : xY zeroL = 0 := by unfold xY; rw [zero_odd, if_neg (by decide), zero_u, R1_zero]; decide
  unfold pY
  rw [h, zero_low, zero_B]; rfl
theorem enc_aff (x y t : Int) : enc ⟨x, y, 1, t⟩ = if x % p % 2 = 1 then (toB 32 (y % p)).set 31 (bits .or .u8 ((toB 32 (y % p)).getD 31 0) 128) else toB 32 (y % p) := by
  unfold enc
  simp only [one_pow2, Int.mul_one]
theorem add_zero_enc (a : List Int) : enc (addQ (pY a) (pY zeroL)) = enc (pY a) := by
  rw [zero_p]
  refine enc_scale (P := addQ (pY a) ⟨0, 1, 1, 0⟩) 4 (pY a).x (pY a).y (pY a).z (pY a).t (by decide) ?_ ?_ ?_
  · unfold addQ pY; simp only; grind
  · unfold addQ pY; simp only; grind
  · unfold addQ pY; simp only; grind
theorem odd_iff {a : List Int} (ha : By a 32) : isOdd a = true ↔ 128 ≤ a.getD 31 0 := by
  have := getD_u8 a ha.2 31
  unfold isOdd
  rw [beq_iff_eq, fd _ _ (by decide)]
  show a.getD 31 0 / 128 = 1 ↔ _
  omega
theorem xY_par {a : List Int} (ho : okY a = true) : xY a % p % 2 = 1 ↔ isOdd a = true := by
  have hz : isOdd a = true → ev2 (R1 (uY a) (vY a)) % p ≠ 0 := fun h h0 => by
    unfold okY at ho
    simp only [Bool.and_eq_true, Bool.not_eq_true', Bool.and_eq_false_iff, decide_eq_false_iff_not] at ho
    rcases ho.2.2 with h1 | h1
    · rw [h] at h1; cases h1
    · exact h1 (by rw [h0]; rfl)
  have hev := ev2_even (R1 (uY a) (vY a))
  have hx : xY a = if isOdd a = true then 0 - ev2 (R1 (uY a) (vY a)) else ev2 (R1 (uY a) (vY a)) := by unfold xY; rfl
  rw [hx]
  generalize ev2 (R1 (uY a) (vY a)) = r at *
  by_cases h : isOdd a = true
  · rw [if_pos h]
    have hm := mp r
    have e : (0 - r) % p = p - r % p := by
      have e1 := Int.mul_ediv_add_emod r p
      have := hz h
      refine emod_of (q := -(r / p) - 1) ?_ (by omega) (by omega)
      rw [Int.mul_sub, Int.mul_neg]; omega
    rw [e]
    have : p % 2 = 1 := by decide
    constructor
    · intro _; exact h
    · intro _; omega
  · rw [if_neg h]
    constructor
    · intro h2; omega
    · intro h2; exact absurd h2 h
theorem enc_pY {a : List Int} (ha : By a 32) (ho : okY a = true) : enc (pY a) = a := by
  have hlt : B (low a) < p := by
    unfold okY at ho
    simp only [Bool.and_eq_true, decide_eq_true_eq] at ho
    exact ho.1
  have hl := low_by ha
  have hy : toB 32 (B (low a) % p) = low a := by
    rw [Int.emod_eq_of_lt (B_nonneg hl) hlt]
    have := toB_B (low a) hl.2
    rwa [hl.1] at this
  unfold pY
  rw [enc_aff, hy]
  have hb := getD_u8 a ha.2 31
  have g : (low a).getD 31 0 = a.getD 31 0 % 128 := by
    unfold low
    rw [List.getD_eq_getElem?_getD, List.getElem?_set_self (by rw [ha.1]; decide), and127 hb]; rfl
  have self : a.set 31 (a.getD 31 0) = a := by
    have : a.getD 31 0 = a[31]'(by rw [ha.1]; decide) := by rw [List.getD_eq_getElem?_getD, List.getElem?_eq_getElem (by rw [ha.1]; decide)]; rfl
    rw [this]; exact List.set_getElem_self _
  by_cases h : xY a % p % 2 = 1
  · rw [if_pos h, g]
    have h128 := (odd_iff ha).1 ((xY_par ho).1 h)
    have hor : bits .or .u8 (a.getD 31 0 % 128) 128 = a.getD 31 0 := by
      obtain ⟨n, en, hn⟩ := u8_nat (x := a.getD 31 0 % 128) (by omega)
      rw [en, show (128 : Int) = ((128 : Nat) : Int) from rfl, (bits_nat .u8 8 (by decide) wraps_u8 n 128 hn (by decide)).2]
      have h2 : n < 2 ^ 7 := by omega
      have e := Nat.two_pow_add_eq_or_of_lt h2 1
      rw [Nat.mul_one] at e
      rw [Nat.or_comm, show (128 : Nat) = 2 ^ 7 from rfl, ← e]
      omega
    rw [hor]
    unfold low
    rw [List.set_set]; exact self
  · rw [if_neg h]
    have h128 : ¬ 128 ≤ a.getD 31 0 := fun hh => h ((xY_par ho).2 ((odd_iff ha).2 hh))
    unfold low
    rw [and127 hb, show a.getD 31 0 % 128 = a.getD 31 0 by omega]; exact self
end Go.Proofs.Ytalnjdcidmkajaa
namespace Go.Proofs.Ytalnjdcidmkajaa.pointBytes
open Go Go.Gx
theorem pure_law (a0 : List Int) (la0 : a0.length = 32) (w0 : ∀ x ∈ a0, IntKind.u8.has x) : ∃ k, postilionlaw06_PointBytes.f k a0 = some true := by
  refine ⟨1000, ?_⟩
  generalize hk' : 1000 = k
  have hk : 101 ≤ k := by omega
  have ha : By a0 32 := ⟨la0, w0⟩
  have h2 : By ((List.replicate 32 (0 : Int)).set 0 2) 32 := (By.zero 32).set 0 (by decide)
  have e1 := add_law k hk ha zero_by
  have e2 := check_law k hk ha
  have e3 := add_law k hk ha ha
  have e4 := mul_law k hk h2 ha
  rw [zero_ok, Bool.and_true, add_zero_enc] at e1
  rw [Bool.and_self] at e3
  unfold postilionlaw06_PointBytes.f
  refine sbd (awake_law k hk) (sbf rfl (sbd (x := point_Zero.f) (a := zeroL) rfl ?_))
  cases ho : okY a0
  · rw [ho, if_neg (by decide)] at e1 e2
    exact sbd e1 (lt_rw (y := 2) rfl (sbd e2 (sbt rfl (sbd (a := true) rfl rfl))))
  · rw [ho, if_pos rfl] at e1 e2 e3 e4
    rw [enc_pY ha ho] at e1
    have hd := mul_digit (pY a0) (fun i => (((List.replicate 32 (0 : Int)).set 0 2).getD i 0).toNat) 2 (by decide) rfl (fun i hi => by
      show ((((List.replicate 32 (0 : Int)).set 0 2).getD i 0)).toNat = 0
      rw [List.getD_eq_getElem?_getD, List.getElem?_set_ne (by omega)]
      by_cases h : i < 32
      · rw [List.getElem?_replicate, if_pos h]; rfl
      · rw [List.getElem?_replicate, if_neg h]; rfl)
    rw [hd] at e4
    refine sbd e1 (lt_rw (y := 0) rfl (sbd e2 (sbf rfl (sbd e3 (lt_rw (y := 0) rfl (sbd e4 (lt_rw (y := 0) rfl (sbd (a := true) ?_ rfl))))))))
    unfold postilionlaw06_PointBytes.p2
    exact sbt rfl (sbt (beq_self_eq_true _) (sbt rfl (sbt rfl (som (beq_self_eq_true _)))))
end Go.Proofs.Ytalnjdcidmkajaa.pointBytes

