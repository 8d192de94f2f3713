/-
  Plain laws: square roots.
  Conditions: none.
-/
import Derived.Test.YtmjjkhnofolacaaPf
set_option linter.unusedVariables false
namespace Go.Proofs.Ytmjjkhnofolacaa
open Go Go.Gx
theorem is_spec (k : Nat) (hk : 50 ≤ k) {a b : List Int} {m n : Int} (ha : El a m) (hb : El b n) : field_Element_Is.f k a b = some (decide (m % p = n % p)) := by
  unfold field_Element_Is.f
  exact sbd (bytes_spec k hk ha) (sbd (bytes_spec k hk hb) (som toB_eq))
theorem and1_u8 (x : Int) (h₀ : 0 ≤ x) (h₁ : x < 256) : bits .and .u8 x 1 = x % 2 :=
  bits_mask .u8 8 (by decide) (fun x h h' => by simp [IntKind.wrap, IntKind.bits, IntKind.signed] at *; omega) 1 (by decide) x h₀ h₁
theorem head_toB (n : Int) : (toB 32 n).getD 0 0 = n % 256 := rfl
theorem odd_spec (k : Nat) (hk : 50 ≤ k) {a : List Int} {m : Int} (ha : El a m) : field_Element_Odd.f k a = some (decide (m % p % 2 = 1)) := by
  unfold field_Element_Odd.f
  refine sbd (bytes_spec k hk ha) (som ?_)
  rw [head_toB, and1_u8 _ (by omega) (by omega)]
  by_cases h : m % p % 2 = 1
  · rw [decide_eq_true h, beq_iff_eq]; omega
  · rw [decide_eq_false h, beq_eq_false_iff_ne]; omega
theorem El.zero : El (List.replicate 5 (0 : Int)) 0 := ⟨0, 0, 0, 0, 0, 0, rfl, by decide, by decide, by decide, by decide, by decide, by decide⟩
theorem El.one : El ((List.replicate 5 (0 : Int)).set 0 1) 1 := ⟨1, 0, 0, 0, 0, 0, rfl, by decide, by decide, by decide, by decide, by decide, by decide⟩
/-- a root of -1 -/
def RI : Int := 19681161376707505956807079304988542015446066515923890162744021073123829784752
theorem El.ri : El [1718705420411056, 234908883556509, 2233514472574048, 2117202627021982, 765476049583133] RI := ⟨_, _, _, _, _, 0, rfl, by decide, by decide, by decide, by decide, by decide, by decide⟩
theorem ri_sq : RI * RI % p = (0 - 1) % p := by decide
/-- what the root is made of -/
def R0 (u v : Int) : Int := u * (v * v * v) * (u * (v * v * v) * (v * v * v) * v) ^ P58
def R1 (u v : Int) : Int := if v * (R0 u v * R0 u v) % p = u % p then R0 u v else R0 u v * RI
def ev2 (x : Int) : Int := if x % p % 2 = 1 then 0 - x else x
theorem sq1 {m : Int} : m ^ (2 ^ 1) = m * m := by rw [show 2 ^ 1 = 2 by rfl, Int.pow_succ, Int.pow_succ, Int.pow_zero, Int.one_mul]
theorem sqr (k : Nat) (hk : 101 ≤ k) {a : List Int} {m : Int} (h : El a m) : ∃ c, field_Element_squared.f k a 1 = some c ∧ El c (m * m) := by
  obtain ⟨c, hc, hE⟩ := sq_spec k hk 1 (by decide) 1 rfl h
  exact ⟨c, hc, hE.eq sq1⟩
theorem ratio_spec (k : Nat) (hk : 101 ≤ k) {a b : List Int} {u v : Int} (ha : El a u) (hb : El b v) :
    ∃ c, field_Ratio.f k a b = some (c, decide (v * (R1 u v * R1 u v) % p = u % p)) ∧ El c (ev2 (R1 u v)) := by
  obtain ⟨r4, e4, h4⟩ := sqr k hk hb
  obtain ⟨r5, e5, h5⟩ := times_spec h4 hb
  obtain ⟨r7, e7, h7⟩ := times_spec ha h5
  obtain ⟨r8, e8, h8⟩ := sqr k hk h5
  obtain ⟨r9, e9, h9⟩ := times_spec ha h8
  obtain ⟨r10, e10, h10⟩ := times_spec h9 hb
  obtain ⟨r11, e11, h11⟩ := power58_spec k hk h10
  obtain ⟨r12, e12, h12⟩ := times_spec h7 h11
  have h12 : El r12 (R0 u v) := h12.eq (by unfold R0; rw [show u * (v * v * v * (v * v * v)) * v = u * (v * v * v) * (v * v * v) * v by rw [← Int.mul_assoc u]])
  obtain ⟨r14, e14, h14⟩ := sqr k hk h12
  obtain ⟨r15, e15, h15⟩ := times_spec hb h14
  have e17 := is_spec k (by omega) h15 ha
  obtain ⟨r19, e19, h19⟩ := times_spec h12 El.ri
  obtain ⟨r20, e20, h20⟩ := sqr k hk h19
  obtain ⟨r21, e21, h21⟩ := times_spec hb h20
  have part : ∃ m23 m24, field_Ratio.p1 k (decide (v * (R0 u v * R0 u v) % p = u % p)) b r12 r15 = some (m23, m24) ∧ El m23 (R1 u v) ∧ El m24 (v * (R1 u v * R1 u v)) := by
    unfold field_Ratio.p1
    by_cases h : v * (R0 u v * R0 u v) % p = u % p
    · rw [decide_eq_true h]
      exact ⟨r12, r15, rfl, h12.eq (by unfold R1; rw [if_pos h]), h15.eq (by unfold R1; rw [if_pos h])⟩
    · rw [decide_eq_false h]
      refine ⟨r19, r21, ?_, h19.eq (by unfold R1; rw [if_neg h]), h21.eq (by unfold R1; rw [if_neg h])⟩
      exact sbt rfl (sbd (x := field_RootOfMinusOne.f) rfl (sbd e19 (sbd e20 (sbd e21 rfl))))
  obtain ⟨m23, m24, ep, h23, h24⟩ := part
  have e25 := odd_spec k (by omega) h23
  obtain ⟨r26, e26, h26⟩ := minus_spec El.zero h23
  have e29 := is_spec k (by omega) h24 ha
  have part2 : ∃ m28, field_Ratio.p2 (decide (R1 u v % p % 2 = 1)) m23 = some m28 ∧ El m28 (ev2 (R1 u v)) := by
    unfold field_Ratio.p2 ev2
    by_cases h : R1 u v % p % 2 = 1
    · rw [decide_eq_true h, if_pos h]; exact ⟨r26, sbd e26 rfl, h26⟩
    · rw [decide_eq_false h, if_neg h]; exact ⟨m23, rfl, h23⟩
  obtain ⟨m28, e28, h28⟩ := part2
  refine ⟨m28, ?_, h28⟩
  unfold field_Ratio.f
  exact sbd e4 (sbd e5 (sbd e7 (sbd e8 (sbd e9 (sbd e10 (sbd e11 (sbd e12 (sbd e14 (sbd e15 (sbd e17 (sbd ep (sbd e25 (sbd e28 (sbd e29 rfl))))))))))))))
theorem ev2_even (x : Int) : ev2 x % p % 2 = 0 := by
  have h := mp x
  unfold ev2
  by_cases ho : x % p % 2 = 1
  · rw [if_pos ho]
    have h2 := mp (0 - x)
    have e : (0 - x) % p = p - x % p := by
      have e1 := Int.mul_ediv_add_emod x p
      refine emod_of (q := -(x / p) - 1) ?_ (by omega) (by omega)
      rw [Int.mul_sub, Int.mul_neg]; omega
    rw [e]; unfold p at *; omega
  · rw [if_neg ho]; omega
theorem ev2_sq (x : Int) : ev2 x * ev2 x = x * x := by
  unfold ev2
  split
  · rw [Int.zero_sub, Int.neg_mul_neg]
  · rfl
/-- what Sqrt answers -/
theorem sqrt_law (k : Nat) (hk : 101 ≤ k) {a : List Int} (ha : By a 32) : field_Sqrt.f k a =
    some (if R1 (B a) 1 * R1 (B a) 1 % p = B a % p then (toB 32 (ev2 (R1 (B a) 1) % p), 0) else (List.replicate 32 (0 : Int), 3)) := by
  obtain ⟨c, hc, h1⟩ := of_spec k (by omega) ha
  obtain ⟨d, hd, h2⟩ := ratio_spec k hk h1 El.one
  rw [Int.one_mul] at hd
  unfold field_Sqrt.f
  refine sbd hc (sbd (a := (List.replicate 5 (0 : Int)).set 0 1) rfl (sbd hd ?_))
  by_cases h : R1 (B a) 1 * R1 (B a) 1 % p = B a % p
  · rw [if_pos h, decide_eq_true h]
    exact sbf rfl (sbd (bytes_spec k (by omega) h2) rfl)
  · rw [if_neg h, decide_eq_false h]
    exact sbt rfl rfl
/-- (p + 3) / 8 -/
def P38 : Nat := 7237005577332262213973186563042994240829374041602535252466099000494570602494
theorem R0_one (u : Int) : R0 u 1 = u ^ P38 := by
  unfold R0
  simp only [Int.mul_one]
  rw [show P38 = P58 + 1 by decide, Int.pow_succ, Int.mul_comm]
theorem cg_pow {a b : Int} (n : Nat) (h : a % p = b % p) : a ^ n % p = b ^ n % p := by rw [← pow_emod, h, pow_emod]
/-- half of p less 1 -/
def PH : Nat := 28948022309329048855892746252171976963317496166410141009864396001978282409974
theorem half (m : Int) (h : m % p ≠ 0) : m ^ PH % p = 1 ∨ m ^ PH % p = (0 - 1) % p := by
  have h1 := fermat h
  rw [show PM = PH * 2 by decide, Int.pow_mul, Int.pow_succ, Int.pow_succ, Int.pow_zero, Int.one_mul] at h1
  generalize m ^ PH = y at *
  have h2 : (y - 1) * (y + 1) % p = 0 := by
    rw [show (y - 1) * (y + 1) = y * y - 1 by rw [Int.sub_mul, Int.mul_add, Int.mul_one, Int.one_mul]; omega, Int.sub_emod, h1]; decide
  rcases mod_mul_zero h2 with h3 | h3
  · left; rw [sub_zero_mod h3]; decide
  · right; exact sub_zero_mod (by rwa [show y - (0 - 1) = y + 1 by omega])
theorem root_sq {u A : Int} (h : u % p = A * A % p) : R1 u 1 * R1 u 1 % p = u % p := by
  have key : u ^ P38 * u ^ P38 % p = A * A * A ^ PH % p := by
    have e1 : u ^ P38 * u ^ P38 % p = (A * A) ^ P38 * (A * A) ^ P38 % p := cg_mul (cg_pow _ h) (cg_pow _ h)
    rw [e1]
    congr 1
    have : A * A = A ^ 2 := by rw [Int.pow_succ, Int.pow_succ, Int.pow_zero, Int.one_mul]
    rw [this, ← Int.pow_mul, ← Int.pow_add, ← Int.pow_add, show 2 * P38 + 2 * P38 = 2 + PH by decide]
  unfold R1
  rw [R0_one]
  simp only [Int.one_mul]
  by_cases hc : u ^ P38 * u ^ P38 % p = u % p
  · rw [if_pos hc]; exact hc
  · rw [if_neg hc]
    have hA : A % p ≠ 0 := fun h0 => by
      have h1 : A * A % p = 0 := by rw [Int.mul_emod, h0]; rfl
      refine hc ?_
      rw [key, h, Int.mul_emod, h1]; simp
    rcases half A hA with h1 | h1
    · exact absurd (by rw [key, h, Int.mul_emod, h1, Int.mul_one, Int.emod_emod]) hc
    · rw [show u ^ P38 * RI * (u ^ P38 * RI) = u ^ P38 * u ^ P38 * (RI * RI) by
        generalize u ^ P38 = y; rw [Int.mul_assoc, Int.mul_assoc, Int.mul_left_comm RI y RI]]
      have e2 : u ^ P38 * u ^ P38 * (RI * RI) % p = A * A * A ^ PH * (0 - 1) % p := cg_mul key ri_sq
      have e3 : A * A * A ^ PH * (0 - 1) % p = A * A * (0 - 1) * (0 - 1) % p := cg_mul (cg_mul rfl h1) rfl
      rw [e2, e3, h, show A * A * (0 - 1) * (0 - 1) = A * A by omega]
theorem sq_eq {x y : Int} (h : x * x % p = y * y % p) : x % p = y % p ∨ x % p = (0 - y) % p := by
  have h2 : (x - y) * (x + y) % p = 0 := by
    rw [show (x - y) * (x + y) = x * x - y * y by rw [Int.sub_mul, Int.mul_add, Int.mul_add, Int.mul_comm x y]; omega, Int.sub_emod, h]; simp
  rcases mod_mul_zero h2 with h3 | h3
  · exact .inl (sub_zero_mod h3)
  · exact .inr (sub_zero_mod (by rwa [show x - (0 - y) = x + y by omega]))
end Go.Proofs.Ytmjjkhnofolacaa
namespace Go.Proofs.Ytmjjkhnofolacaa.fieldRoots
open Go Go.Gx
theorem even_head (x : Int) : Int.tmod ((toB 32 (ev2 x % p)).getD 0 0) 2 = 0 := by
  rw [head_toB, Int.tmod_eq_emod_of_nonneg (by omega)]
  have := ev2_even x
  have := mp (ev2 x)
  omega
theorem pure_law (a0 : List Int) (la0 : a0.length = 32) (w0 : ∀ x ∈ a0, IntKind.u8.has x) : ∃ k, postilionlaw04_FieldRoots.f k a0 = some true := by
  refine ⟨1000, ?_⟩
  generalize hk' : 1000 = k
  have hk : 101 ≤ k := by omega
  have ha : By a0 32 := ⟨la0, w0⟩
  have e0 := add_law k (by omega) ha (By.zero 32)
  rw [B_zero, Int.add_zero] at e0
  have e1 := mul_law k (by omega) ha ha
  have e2 := sqrt_law k hk (By.toB 32 ((B a0 * B a0) % p))
  have e3 := sqrt_law k hk ha
  have e4 := sub_law k (by omega) (By.zero 32) ha
  rw [B_zero] at e4
  rw [B_small] at e2
  generalize hm : B a0 = m at *
  have hsq := root_sq (u := m * m % p) (A := m) (Int.emod_emod _ _)
  rw [if_pos hsq] at e2
  generalize hr : R1 (m * m % p) 1 = r at *
  generalize hs : R1 m 1 = s at *
  unfold postilionlaw04_FieldRoots.f
  refine sbd (awake_law k (by omega)) (sbf rfl (sbd e1 (sbd e2 (lt_rw (y := 0) rfl (sbd (a := false) ?_ (sbf rfl (sbd e3 ?_)))))))
  · have e5 := mul_law k (by omega) (By.toB 32 (ev2 r % p)) (By.toB 32 (ev2 r % p))
    rw [B_small, mp2, mp1, ev2_sq, hsq, Int.emod_emod] at e5
    have h6 : ev2 r * ev2 r % p = m * m % p := by rw [ev2_sq, hsq, Int.emod_emod]
    unfold postilionlaw04_FieldRoots.p1
    refine sbf rfl (sbf ?_ (sbd e5 (sbf (by rw [beq_self_eq_true]; rfl) (sbd e0 ?_))))
    · show ((Int.tmod ((toB 32 (ev2 r % p)).getD 0 0) 2) != 0) = false
      rw [even_head]; rfl
    · show br (!(toB 32 (ev2 r % p) == toB 32 (m % p))) _ _ = some false
      rcases sq_eq h6 with h | h
      · rw [h]; exact sbf (by rw [beq_self_eq_true]; rfl) rfl
      · by_cases h2 : ev2 r % p = m % p
        · rw [h2]; exact sbf (by rw [beq_self_eq_true]; rfl) rfl
        · refine sbt (by rw [toB_eq, decide_eq_false h2]; rfl) (sbd e4 (som ?_))
          show (!(toB 32 (ev2 r % p) == toB 32 ((0 - m) % p))) = false
          rw [h, beq_self_eq_true]; rfl
  · by_cases h : s * s % p = m % p
    · rw [if_pos h]
      refine lt_rw (y := 0) rfl (sbf rfl (sbd (a := true) ?_ rfl))
      have e5 := mul_law k (by omega) (By.toB 32 (ev2 s % p)) (By.toB 32 (ev2 s % p))
      rw [B_small, mp2, mp1, ev2_sq, h] at e5
      unfold postilionlaw04_FieldRoots.p3
      refine sbd e5 (sbd e0 (sbt (beq_self_eq_true _) (som ?_)))
      show ((Int.tmod ((toB 32 (ev2 s % p)).getD 0 0) 2) == 0) = true
      rw [even_head]; rfl
    · rw [if_neg h]
      exact lt_rw (y := 3) rfl (sbt rfl (sbd (a := true) rfl rfl))
end Go.Proofs.Ytmjjkhnofolacaa.fieldRoots

