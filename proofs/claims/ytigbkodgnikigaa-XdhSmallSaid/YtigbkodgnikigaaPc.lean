/-
  Plain laws of the reference's numbers.
  Conditions: none.
-/
import Derived.Test.YtigbkodgnikigaaPb
set_option linter.unusedVariables false
namespace Go.Proofs.Ytigbkodgnikigaa.ref
open Go Go.Gx Go.Proofs.Ytigbkodgnikigaa
structure Num (l : List Int) (n : Int) : Prop where
  len : l.length = 4
  w : W l
  v : V l = n
theorem Num.cases {l : List Int} {n : Int} (h : Num l n) : ∃ x0 x1 x2 x3, l = [x0, x1, x2, x3] ∧ (0 ≤ x0 ∧ x0 < 18446744073709551616) ∧ (0 ≤ x1 ∧ x1 < 18446744073709551616) ∧ (0 ≤ x2 ∧ x2 < 18446744073709551616) ∧ (0 ≤ x3 ∧ x3 < 18446744073709551616) ∧
    n = x0 + 18446744073709551616 * x1 + 340282366920938463463374607431768211456 * x2 + 6277101735386680763835789423207666416102355444464034512896 * x3 := by
  obtain ⟨hl, hw, hv⟩ := h
  match l, hl with
  | [x0, x1, x2, x3], _ =>
    simp only [W_cons] at hw
    refine ⟨x0, x1, x2, x3, rfl, hw.1, hw.2.1, hw.2.2.1, hw.2.2.2.1, ?_⟩
    rw [← hv]; simp only [V]; omega
theorem Num.mk' {x0 x1 x2 x3 n : Int} (h0 : 0 ≤ x0 ∧ x0 < 18446744073709551616) (h1 : 0 ≤ x1 ∧ x1 < 18446744073709551616) (h2 : 0 ≤ x2 ∧ x2 < 18446744073709551616) (h3 : 0 ≤ x3 ∧ x3 < 18446744073709551616)
    (h : n = x0 + 18446744073709551616 * x1 + 340282366920938463463374607431768211456 * x2 + 6277101735386680763835789423207666416102355444464034512896 * x3) : Num [x0, x1, x2, x3] n :=
  ⟨rfl, by simp only [W_cons]; exact ⟨h0, h1, h2, h3, W_nil⟩, by rw [h]; simp only [V]; omega⟩
theorem Num.eq {l l' : List Int} {n : Int} (h : Num l n) (h' : Num l' n) : l = l' := by
  obtain ⟨x0, x1, x2, x3, rfl, a0, a1, a2, a3, e⟩ := h.cases
  obtain ⟨y0, y1, y2, y3, rfl, b0, b1, b2, b3, e'⟩ := h'.cases
  have : x0 = y0 ∧ x1 = y1 ∧ x2 = y2 ∧ x3 = y3 := by omega
  obtain ⟨rfl, rfl, rfl, rfl⟩ := this
  rfl
theorem Num.bound {l : List Int} {n : Int} (h : Num l n) : 0 ≤ n ∧ n < 115792089237316195423570985008687907853269984665640564039457584007913129639936 := by
  obtain ⟨x0, x1, x2, x3, rfl, a0, a1, a2, a3, e⟩ := h.cases
  omega
theorem dm (s : Int) : ∃ r q, s % 18446744073709551616 = r ∧ s / 18446744073709551616 = q ∧ s = r + 18446744073709551616 * q ∧ 0 ≤ r ∧ r < 18446744073709551616 := ⟨_, _, rfl, rfl, by omega, by omega, by omega⟩
theorem db (x z c : Int) (hx : 0 ≤ x ∧ x < 18446744073709551616) (hz : 0 ≤ z ∧ z < 18446744073709551616) (hc : 0 ≤ c ∧ c ≤ 1) :
    ∃ r q, (x - z - c) % 18446744073709551616 = r ∧ (if x < z + c then 1 else 0 : Int) = q ∧ x - z - c = r - 18446744073709551616 * q ∧ (0 ≤ r ∧ r < 18446744073709551616) ∧ (0 ≤ q ∧ q ≤ 1) := by
  refine ⟨_, _, rfl, rfl, ?_, by omega, by split <;> decide⟩
  split <;> omega
theorem less_step (k : Nat) {a b y y' : List Int} {c i i' x z r q : Int} (hi : 0 ≤ i) (hi4 : i < 4) (ex : a.getD i.toNat 0 = x) (ez : b.getD i.toNat 0 = z) (hy : 0 ≤ x) (hb : 0 ≤ z ∧ z < 18446744073709551616) (hc : 0 ≤ c ∧ c ≤ 1)
    (er : (x - z - c) % 18446744073709551616 = r) (eq : (if x < z + c then 1 else 0 : Int) = q) (es : y.set i.toNat r = y') (ei : i + 1 = i') :
    postilionref04_less.p1 (k + 1) a b y c i = postilionref04_less.p1 k a b y' q i' := by
  subst ex ez er eq es ei
  rw [postilionref04_less.p1, decide_eq_true hi4]
  simp only [br, lt]
  rw [chk_pos ⟨hi, hi4⟩, chk_pos ⟨hy, hb, hc.1, hc.2⟩, wrap_i64_of (by omega) (by omega)]
theorem dif_spec (k : Nat) (hk : 5 ≤ k) {a b : List Int} {m n : Int} (ha : Num a m) (hb : Num b n) (hmn : n ≤ m) :
    ∃ c, postilionref04_less.f k a b = some c ∧ Num c (m - n) := by
  obtain ⟨k, rfl⟩ := Nat.exists_eq_add_of_le' hk
  obtain ⟨x0, x1, x2, x3, rfl, a0, a1, a2, a3, e⟩ := ha.cases
  obtain ⟨y0, y1, y2, y3, rfl, b0, b1, b2, b3, e'⟩ := hb.cases
  unfold postilionref04_less.f
  obtain ⟨r0, c1, q0, q0', g0, l0, h0⟩ := db x0 y0 0 a0 b0 (by decide)
  obtain ⟨r1, c2, q1, q1', g1, l1, h1⟩ := db x1 y1 c1 a1 b1 h0
  obtain ⟨r2, c3, q2, q2', g2, l2, h2⟩ := db x2 y2 c2 a2 b2 h1
  obtain ⟨r3, c4, q3, q3', g3, l3, h3⟩ := db x3 y3 c3 a3 b3 h2
  have s0 := less_step (k + 4) (a := [x0, x1, x2, x3]) (b := [y0, y1, y2, y3]) (y := [0, 0, 0, 0]) (i := 0) (by decide) (by decide) rfl rfl a0.1 b0 (show (0 : Int) ≤ 0 ∧ (0 : Int) ≤ 1 by decide) q0 q0' rfl rfl
  have s1 := less_step (k + 3) (a := [x0, x1, x2, x3]) (b := [y0, y1, y2, y3]) (y := [r0, 0, 0, 0]) (i := 1) (by decide) (by decide) rfl rfl a1.1 b1 h0 q1 q1' rfl rfl
  have s2 := less_step (k + 2) (a := [x0, x1, x2, x3]) (b := [y0, y1, y2, y3]) (y := [r0, r1, 0, 0]) (i := 2) (by decide) (by decide) rfl rfl a2.1 b2 h1 q2 q2' rfl rfl
  have s3 := less_step (k + 1) (a := [x0, x1, x2, x3]) (b := [y0, y1, y2, y3]) (y := [r0, r1, r2, 0]) (i := 3) (by decide) (by decide) rfl rfl a3.1 b3 h2 q3 q3' rfl rfl
  exact ⟨[r0, r1, r2, r3], sbd (s0.trans (s1.trans (s2.trans (s3.trans rfl)))) rfl, Num.mk' l0 l1 l2 l3 (by omega)⟩
theorem below_eq (k : Nat) {a b : List Int} {i i' x : Int} (hi : 0 ≤ i) (hi4 : i < 4) (ex : a.getD i.toNat 0 = x) (ez : b.getD i.toNat 0 = x) (ei : i - 1 = i') :
    postilionref04_below.p1 (k + 1) a b i = postilionref04_below.p1 k a b i' := by
  subst ex ei
  rw [postilionref04_below.p1, decide_eq_true (show i ≥ 0 by omega)]
  simp only [br, lt]
  rw [chk_pos ⟨hi, hi4⟩, ez, bne_self_eq_false]
  show postilionref04_below.p1 k a b (IntKind.i64.wrap (i - 1)) = _
  rw [wrap_i64_of (by omega) (by omega)]
theorem below_ne (k : Nat) {a b : List Int} {i x z : Int} (hi : 0 ≤ i) (hi4 : i < 4) (ex : a.getD i.toNat 0 = x) (ez : b.getD i.toNat 0 = z) (hn : x ≠ z) :
    postilionref04_below.p1 (k + 1) a b i = some (.inr (decide (x < z))) := by
  subst ex ez
  rw [postilionref04_below.p1, decide_eq_true (show i ≥ 0 by omega)]
  simp only [br, lt]
  rw [chk_pos ⟨hi, hi4⟩, show (a.getD i.toNat 0 != b.getD i.toNat 0) = true from bne_iff_ne.mpr hn]
theorem below_spec (k : Nat) (hk : 5 ≤ k) {a b : List Int} {m n : Int} (ha : Num a m) (hb : Num b n) : postilionref04_below.f k a b = some (decide (m < n)) := by
  obtain ⟨k, rfl⟩ := Nat.exists_eq_add_of_le' hk
  obtain ⟨x0, x1, x2, x3, rfl, a0, a1, a2, a3, e⟩ := ha.cases
  obtain ⟨y0, y1, y2, y3, rfl, b0, b1, b2, b3, e'⟩ := hb.cases
  unfold postilionref04_below.f
  have fin : ∀ (v : Bool), v = decide (m < n) → postilionref04_below.p1 (k + 5) [x0, x1, x2, x3] [y0, y1, y2, y3] 3 = some (.inr v) → bd (postilionref04_below.p1 (k + 5) [x0, x1, x2, x3] [y0, y1, y2, y3] 3) (fun r8 => match r8 with
    | (.inl _) => some (false)
    | (.inr m9) => some (m9)) = some (decide (m < n)) := fun v hv h => sbd h (by rw [hv])
  by_cases h3 : x3 = y3
  · have s3 := below_eq (k + 4) (a := [x0, x1, x2, x3]) (b := [y0, y1, y2, y3]) (i := 3) (by decide) (by decide) rfl h3.symm rfl
    by_cases h2 : x2 = y2
    · have s2 := below_eq (k + 3) (a := [x0, x1, x2, x3]) (b := [y0, y1, y2, y3]) (i := 2) (by decide) (by decide) rfl h2.symm rfl
      by_cases h1 : x1 = y1
      · have s1 := below_eq (k + 2) (a := [x0, x1, x2, x3]) (b := [y0, y1, y2, y3]) (i := 1) (by decide) (by decide) rfl h1.symm rfl
        by_cases h0 : x0 = y0
        · have s0 := below_eq (k + 1) (a := [x0, x1, x2, x3]) (b := [y0, y1, y2, y3]) (i := 0) (by decide) (by decide) rfl h0.symm rfl
          refine sbd (s3.trans (s2.trans (s1.trans (s0.trans (show _ = some (.inl ()) from rfl))))) ?_
          rw [decide_eq_false (show ¬ m < n by omega)]
        · refine fin _ ?_ (s3.trans (s2.trans (s1.trans (below_ne (k + 1) (by decide) (by decide) rfl rfl h0))))
          exact decide_eq_decide.mpr (show x0 < y0 ↔ _ by omega)
      · refine fin _ ?_ (s3.trans (s2.trans (below_ne (k + 2) (by decide) (by decide) rfl rfl h1)))
        exact decide_eq_decide.mpr (show x1 < y1 ↔ _ by omega)
    · refine fin _ ?_ (s3.trans (below_ne (k + 3) (by decide) (by decide) rfl rfl h2))
      exact decide_eq_decide.mpr (show x2 < y2 ↔ _ by omega)
  · refine fin _ ?_ (below_ne (k + 4) (by decide) (by decide) rfl rfl h3)
    exact decide_eq_decide.mpr (show x3 < y3 ↔ _ by omega)
theorem plus_step (k : Nat) {a b y y' : List Int} {c i i' x z r q : Int} (hi : 0 ≤ i) (hi4 : i < 4) (ex : a.getD i.toNat 0 = x) (ez : b.getD i.toNat 0 = z) (hy : 0 ≤ x) (hb : 0 ≤ z ∧ z < 18446744073709551616) (hc : 0 ≤ c ∧ c ≤ 1)
    (er : (x + z + c) % 18446744073709551616 = r) (eq : (x + z + c) / 18446744073709551616 = q) (es : y.set i.toNat r = y') (ei : i + 1 = i') :
    postilionref04_Plus.p1 (k + 1) a b y c i = postilionref04_Plus.p1 k a b y' q i' := by
  subst ex ez er eq es ei
  rw [postilionref04_Plus.p1, decide_eq_true hi4]
  simp only [br, lt]
  rw [chk_pos ⟨hi, hi4⟩, chk_pos ⟨hy, hb.1, hc.1, hc.2⟩, wrap_i64_of (by omega) (by omega)]
theorem sum_spec (k : Nat) (hk : 5 ≤ k) {a b : List Int} {m n : Int} (ha : Num a m) (hb : Num b n) :
    ∃ h c n', postilionref04_Plus.p1 k a b (List.replicate 4 0) 0 0 = some (h, c) ∧ (0 ≤ h ∧ h ≤ 1) ∧ Num c n' ∧ n' + 115792089237316195423570985008687907853269984665640564039457584007913129639936 * h = m + n := by
  obtain ⟨k, rfl⟩ := Nat.exists_eq_add_of_le' hk
  obtain ⟨x0, x1, x2, x3, rfl, a0, a1, a2, a3, e⟩ := ha.cases
  obtain ⟨y0, y1, y2, y3, rfl, b0, b1, b2, b3, e'⟩ := hb.cases
  obtain ⟨r0, c1, q0, q0', g0, l0, u0⟩ := dm (x0 + y0 + 0)
  have h0 : 0 ≤ c1 ∧ c1 ≤ 1 := by omega
  obtain ⟨r1, c2, q1, q1', g1, l1, u1⟩ := dm (x1 + y1 + c1)
  have h1 : 0 ≤ c2 ∧ c2 ≤ 1 := by omega
  obtain ⟨r2, c3, q2, q2', g2, l2, u2⟩ := dm (x2 + y2 + c2)
  have h2 : 0 ≤ c3 ∧ c3 ≤ 1 := by omega
  obtain ⟨r3, c4, q3, q3', g3, l3, u3⟩ := dm (x3 + y3 + c3)
  have s0 := plus_step (k + 4) (a := [x0, x1, x2, x3]) (b := [y0, y1, y2, y3]) (y := [0, 0, 0, 0]) (i := 0) (by decide) (by decide) rfl rfl a0.1 b0 (show (0 : Int) ≤ 0 ∧ (0 : Int) ≤ 1 by decide) q0 q0' rfl rfl
  have s1 := plus_step (k + 3) (a := [x0, x1, x2, x3]) (b := [y0, y1, y2, y3]) (y := [r0, 0, 0, 0]) (i := 1) (by decide) (by decide) rfl rfl a1.1 b1 h0 q1 q1' rfl rfl
  have s2 := plus_step (k + 2) (a := [x0, x1, x2, x3]) (b := [y0, y1, y2, y3]) (y := [r0, r1, 0, 0]) (i := 2) (by decide) (by decide) rfl rfl a2.1 b2 h1 q2 q2' rfl rfl
  have s3 := plus_step (k + 1) (a := [x0, x1, x2, x3]) (b := [y0, y1, y2, y3]) (y := [r0, r1, r2, 0]) (i := 3) (by decide) (by decide) rfl rfl a3.1 b3 h2 q3 q3' rfl rfl
  exact ⟨c4, [r0, r1, r2, r3], _, s0.trans (s1.trans (s2.trans (s3.trans rfl))), by omega, Num.mk' ⟨l0, u0⟩ ⟨l1, u1⟩ ⟨l2, u2⟩ ⟨l3, u3⟩ rfl, by omega⟩
theorem bit_low (x v : Int) (i j : Nat) (h : i < j) : (x + 2 ^ j * v) / 2 ^ i % 2 = x / 2 ^ i % 2 := by
  obtain ⟨d, rfl⟩ : ∃ d, j = i + (d + 1) := ⟨j - i - 1, by omega⟩
  have hp : (0 : Int) < 2 ^ i := Int.pow_pos (by decide)
  rw [Int.pow_add, Int.mul_assoc, Int.add_mul_ediv_left _ _ (by omega), Int.pow_succ, Int.mul_assoc, Int.mul_comm (2 ^ d), Int.mul_assoc, Int.add_mul_emod_self_left]
theorem bit_high (x v : Int) (i j : Nat) (h : j ≤ i) (h0 : 0 ≤ x) (h1 : x < 2 ^ j) : (x + 2 ^ j * v) / 2 ^ i = v / 2 ^ (i - j) := by
  obtain ⟨d, rfl⟩ : ∃ d, i = j + d := ⟨i - j, by omega⟩
  have hp : (0 : Int) < 2 ^ j := Int.pow_pos (by decide)
  rw [Int.pow_add, Nat.add_sub_cancel_left, ← Int.ediv_ediv_of_nonneg (Int.le_of_lt hp), Int.add_mul_ediv_left _ _ (by omega), Int.ediv_eq_zero_of_lt h0 h1, Int.zero_add]
theorem bitV {a : List Int} (ha : W a) (i : Nat) : a.getD (i / 64) 0 / 2 ^ (i % 64) % 2 = V a / 2 ^ i % 2 := by
  induction a generalizing i with
  | nil => simp [V]
  | cons x l ih =>
    have h := W_cons.mp ha
    rw [V, show (18446744073709551616 : Int) = 2 ^ 64 from rfl]
    by_cases hi : i < 64
    · rw [bit_low _ _ _ _ hi, Nat.div_eq_of_lt hi, Nat.mod_eq_of_lt hi]; rfl
    · rw [bit_high _ _ _ _ (by omega) h.1.1 h.1.2, ← ih h.2 (i - 64), show i / 64 = (i - 64) / 64 + 1 by omega, List.getD_cons_succ, show i % 64 = (i - 64) % 64 by omega]
theorem bit_step (n : Int) (i : Nat) : n / 2 ^ i = 2 * (n / 2 ^ (i + 1)) + n / 2 ^ i % 2 := by
  rw [Int.pow_succ, ← Int.ediv_ediv_of_nonneg (Int.le_of_lt (Int.pow_pos (by decide)))]; omega
theorem one_num : Num [1, 0, 0, 0] 1 := Num.mk' (by decide) (by decide) (by decide) (by decide) (by decide)
theorem zero_num : Num (List.replicate 4 0) 0 := Num.mk' (by decide) (by decide) (by decide) (by decide) (by decide)
theorem and1_u64 (x : Int) (h : 0 ≤ x ∧ x < 18446744073709551616) : bits .and .u64 x 1 = x % 2 := and_u64 1 (by decide) x h.1 h.2
theorem div_le {x : Int} (h : 0 ≤ x) (i : Nat) : 0 ≤ x / 2 ^ i ∧ x / 2 ^ i ≤ x :=
  ⟨Int.ediv_nonneg h (Int.le_of_lt (Int.pow_pos (by decide))), Int.ediv_le_self _ h⟩
theorem bytes_loop (d k : Nat) (hk : d + 1 ≤ k) (a : List Int) (hd : d ≤ 32) :
    postilionref04_Bytes.p1 k a (fil (wb a) 32 (32 - d)) ((32 - d : Nat) : Int) = some ((List.range 32).map (wb a)) := by
  induction d generalizing k with
  | zero =>
    obtain ⟨k, rfl⟩ := Nat.exists_eq_add_of_le' (show 1 ≤ k by omega)
    rw [Nat.sub_zero, fil_all]; rfl
  | succ d ih =>
    obtain ⟨k, rfl⟩ := Nat.exists_eq_add_of_le' (show 1 ≤ k by omega)
    obtain ⟨i, ei⟩ : ∃ i, i = 32 - (d + 1) := ⟨_, rfl⟩
    have hi : i < 32 := by omega
    rw [← ei]
    rw [postilionref04_Bytes.p1, decide_eq_true (show (i : Int) < 32 by omega)]
    simp only [br, lt]
    rw [show Int.tdiv (i : Int) 8 = ((i / 8 : Nat) : Int) from rfl, show Int.tmod (i : Int) 8 = ((i % 8 : Nat) : Int) from rfl]
    rw [wrap_i64_of (x := ((i / 8 : Nat) : Int)) (by omega) (by omega), wrap_i64_of (x := 8 * ((i % 8 : Nat) : Int)) (by omega) (by omega), wrap_u64_of (x := 8 * ((i % 8 : Nat) : Int)) (by omega) (by omega), wrap_i64_of (x := (i : Int) + 1) (by omega) (by omega)]
    rw [chk_pos ⟨by omega, by omega⟩, chk_pos (by omega), chk_pos ⟨by omega, by omega⟩]
    rw [show (((i / 8 : Nat) : Int)).toNat = i / 8 by omega, show (8 * ((i % 8 : Nat) : Int)).toNat = 8 * (i % 8) by omega, show (i : Int).toNat = i by omega]
    rw [show min (8 * (i % 8)) IntKind.u64.bits = 8 * (i % 8) from Nat.min_eq_left (show 8 * (i % 8) ≤ 64 by omega), fd _ _ (Int.le_of_lt (Int.pow_pos (by decide))), IntKind.wrap_u8]
    rw [show a.getD (i / 8) 0 / 2 ^ (8 * (i % 8)) % 256 = wb a i from rfl, fil_set _ _ _ hi, show (i : Int) + 1 = ((i + 1 : Nat) : Int) by omega, show i + 1 = 32 - d by omega]
    exact ih k (by omega) (by omega)
theorem from_step (k i : Nat) (hi : i < 32) {a z z' : List Int} {v : Int} (ha : a.length = 32) (hx : a.getD i 0 = v) (hv : 0 ≤ v ∧ v < 256) (q r : Nat) (hq : i / 8 = q) (hr : i % 8 = r)
    {y : Int} (hy : z.getD q 0 = y) (hy0 : 0 ≤ y) (hy1 : y < 2 ^ (8 * r)) (hz : z.set q (y + v * 2 ^ (8 * r)) = z') :
    postilionref04_From.p1 (k + 1) a z (i : Int) = postilionref04_From.p1 k a z' ((i + 1 : Nat) : Int) := by
  subst hz hy hx hq hr
  have hp : (0 : Int) < 2 ^ (8 * (i % 8)) := Int.pow_pos (by decide)
  have hp' : (2 : Int) ^ (8 * (i % 8)) ≤ 2 ^ 56 := by
    have : i % 8 < 8 := by omega
    generalize i % 8 = r at this
    rcases (show r = 0 ∨ r = 1 ∨ r = 2 ∨ r = 3 ∨ r = 4 ∨ r = 5 ∨ r = 6 ∨ r = 7 by omega) with h | h | h | h | h | h | h | h <;> subst h <;> decide
  have hb : 0 ≤ a.getD i 0 * 2 ^ (8 * (i % 8)) ∧ a.getD i 0 * 2 ^ (8 * (i % 8)) ≤ 255 * 2 ^ 56 := pb ⟨hv.1, by omega⟩ ⟨by omega, hp'⟩
  have hb2 : (255 * 2 ^ 56 : Int) < 18446744073709551616 := by decide
  have hb3 : (2 ^ 56 : Int) < 18446744073709551616 := by decide
  rw [postilionref04_From.p1, decide_eq_true (show (i : Int) < 32 by omega)]
  simp only [br, lt]
  rw [show Int.tdiv (i : Int) 8 = ((i / 8 : Nat) : Int) from rfl, show Int.tmod (i : Int) 8 = ((i % 8 : Nat) : Int) from rfl]
  rw [wrap_i64_of (x := ((i / 8 : Nat) : Int)) (by omega) (by omega), wrap_i64_of (x := 8 * ((i % 8 : Nat) : Int)) (by omega) (by omega), wrap_u64_of (x := 8 * ((i % 8 : Nat) : Int)) (by omega) (by omega), wrap_i64_of (x := (i : Int) + 1) (by omega) (by omega)]
  rw [chk_pos ⟨by omega, by omega⟩, chk_pos ⟨by omega, by omega⟩, chk_pos (by omega)]
  rw [show (((i / 8 : Nat) : Int)).toNat = i / 8 by omega, show (8 * ((i % 8 : Nat) : Int)).toNat = 8 * (i % 8) by omega, show (i : Int).toNat = i by omega]
  rw [show min (8 * (i % 8)) IntKind.u64.bits = 8 * (i % 8) from Nat.min_eq_left (show 8 * (i % 8) ≤ 64 by omega)]
  rw [wrap_u64_of (x := a.getD i 0) hv.1 (by omega), wrap_u64_of (x := a.getD i 0 * 2 ^ (8 * (i % 8))) hb.1 (by omega)]
  rw [or_u64' (8 * (i % 8)) _ _ hb.1 (Int.mul_emod_left _ _) (by omega) hy0 hy1 (by omega)]
  rfl
theorem take_succ {a : List Int} {i : Nat} (h : i < a.length) : B (a.take (i + 1)) = B (a.take i) + a.getD i 0 * 256 ^ i := by
  have e : a.take (i + 1) = a.take i ++ [a.getD i 0] := by
    rw [List.take_add_one, List.getElem?_eq_getElem h, List.getD_eq_getElem?_getD, List.getElem?_eq_getElem h]; rfl
  rw [e, B_app, List.length_take, Nat.min_eq_left (by omega)]
  simp only [B]
  rw [Int.mul_zero, Int.add_zero, Int.mul_comm]
theorem word_fill {z : List Int} {n v : Int} (i : Nat) (hi : i < 32) (hz : Num z n) (hn : n < 256 ^ i) (hv : 0 ≤ v ∧ v < 256) :
    ∃ y z', z.getD (i / 8) 0 = y ∧ 0 ≤ y ∧ y < 2 ^ (8 * (i % 8)) ∧ z.set (i / 8) (y + v * 2 ^ (8 * (i % 8))) = z' ∧ Num z' (n + v * 256 ^ i) := by
  obtain ⟨x0, x1, x2, x3, rfl, a0, a1, a2, a3, e⟩ := hz.cases
  have hpw : (256 : Int) ^ i = 18446744073709551616 ^ (i / 8) * 2 ^ (8 * (i % 8)) := by
    rw [show (256 : Int) ^ i = 2 ^ (8 * i) by rw [Int.pow_mul]; rfl, show (18446744073709551616 : Int) = 2 ^ 64 from rfl, ← Int.pow_mul, ← Int.pow_add, show 64 * (i / 8) + 8 * (i % 8) = 8 * i by omega]
  rw [hpw] at hn ⊢
  have hp : (0 : Int) < 2 ^ (8 * (i % 8)) := Int.pow_pos (by decide)
  have hp' : (2 : Int) ^ (8 * (i % 8)) ≤ 72057594037927936 := by
    have : i % 8 < 8 := by omega
    generalize i % 8 = r at this
    rcases (show r = 0 ∨ r = 1 ∨ r = 2 ∨ r = 3 ∨ r = 4 ∨ r = 5 ∨ r = 6 ∨ r = 7 by omega) with h | h | h | h | h | h | h | h <;> subst h <;> decide
  have hb : 0 ≤ v * 2 ^ (8 * (i % 8)) ∧ v * 2 ^ (8 * (i % 8)) ≤ 255 * 72057594037927936 := pb ⟨hv.1, by omega⟩ ⟨by omega, hp'⟩
  have hq : i / 8 < 4 := by omega
  rw [show v * (18446744073709551616 ^ (i / 8) * 2 ^ (8 * (i % 8))) = 18446744073709551616 ^ (i / 8) * (v * 2 ^ (8 * (i % 8))) by rw [← Int.mul_assoc, Int.mul_comm v, Int.mul_assoc]]
  generalize v * 2 ^ (8 * (i % 8)) = t at *
  generalize (2 : Int) ^ (8 * (i % 8)) = P at *
  generalize i / 8 = q at *
  rcases (show q = 0 ∨ q = 1 ∨ q = 2 ∨ q = 3 by omega) with h | h | h | h <;> subst h
  · rw [show (18446744073709551616 : Int) ^ 0 = 1 from rfl] at *
    exact ⟨x0, [x0 + t, x1, x2, x3], rfl, a0.1, by omega, rfl, Num.mk' (by omega) a1 a2 a3 (by omega)⟩
  · rw [show (18446744073709551616 : Int) ^ 1 = 18446744073709551616 by decide] at *
    exact ⟨x1, [x0, x1 + t, x2, x3], rfl, a1.1, by omega, rfl, Num.mk' a0 (by omega) a2 a3 (by omega)⟩
  · rw [show (18446744073709551616 : Int) ^ 2 = 340282366920938463463374607431768211456 by decide] at *
    exact ⟨x2, [x0, x1, x2 + t, x3], rfl, a2.1, by omega, rfl, Num.mk' a0 a1 (by omega) a3 (by omega)⟩
  · rw [show (18446744073709551616 : Int) ^ 3 = 6277101735386680763835789423207666416102355444464034512896 by decide] at *
    exact ⟨x3, [x0, x1, x2, x3 + t], rfl, a3.1, by omega, rfl, Num.mk' a0 a1 a2 (by omega) (by omega)⟩
theorem from_loop (d k : Nat) (hk : d + 1 ≤ k) {a z : List Int} (ha : By a 32) (hd : d ≤ 32) (hz : Num z (B (a.take (32 - d)))) :
    ∃ c, postilionref04_From.p1 k a z ((32 - d : Nat) : Int) = some c ∧ Num c (B a) := by
  induction d generalizing k z with
  | zero =>
    obtain ⟨k, rfl⟩ := Nat.exists_eq_add_of_le' (show 1 ≤ k by omega)
    rw [List.take_of_length_le (by rw [ha.1]; decide)] at hz
    exact ⟨z, rfl, hz⟩
  | succ d ih =>
    obtain ⟨k, rfl⟩ := Nat.exists_eq_add_of_le' (show 1 ≤ k by omega)
    obtain ⟨i, ei⟩ : ∃ i, i = 32 - (d + 1) := ⟨_, rfl⟩
    have hi : i < 32 := by omega
    rw [← ei] at hz ⊢
    have hl : (a.take i).length = i := by rw [List.length_take, ha.1]; omega
    have hb := (B_bound (a.take i) fun x hx => ha.2 x (List.mem_of_mem_take hx)).2
    rw [hl] at hb
    have hv := getD_u8 a ha.2 i
    obtain ⟨y, z', h1, h2, h3, h4, h5⟩ := word_fill i hi hz hb hv
    rw [← take_succ (by rw [ha.1]; exact hi)] at h5
    rw [show i + 1 = 32 - d by omega] at h5
    obtain ⟨c, ec, nc⟩ := ih k (by omega) (by omega) h5
    refine ⟨c, (from_step k i hi ha.1 rfl hv _ _ rfl rfl h1 h2 h3 h4).trans ?_, nc⟩
    rw [show i + 1 = 32 - d by omega]; exact ec
theorem mul_step (k : Nat) (i j ij : Nat) (hi : i < 4) (hj : j < 4) (hij : i + j = ij) {r5 r6 w : List Int} {c x y v : Int} {jj : Int} (ex : r5.getD i 0 = x) (ey : r6.getD j 0 = y) (ev : w.getD ij 0 = v) (ejj : (j : Int) + 1 = jj)
    (hx : 0 ≤ x ∧ x < 18446744073709551616) (hy : 0 ≤ y ∧ y < 18446744073709551616) (hv : 0 ≤ v ∧ v < 18446744073709551616) (hc : 0 ≤ c ∧ c < 18446744073709551616) :
    ∃ r q, (0 ≤ r ∧ r < 18446744073709551616) ∧ (0 ≤ q ∧ q < 18446744073709551616) ∧ r + 18446744073709551616 * q = x * y + v + c ∧
      postilionref04_Times.p2 (k + 1) (i : Int) r5 r6 w c (j : Int) = postilionref04_Times.p2 k (i : Int) r5 r6 (w.set ij r) q jj := by
  subst ex ey ev hij ejj
  obtain ⟨h, l, e, bh, bl, em⟩ := mul_spec hx hy
  obtain ⟨p, ep⟩ := pb (P := 18446744073709551615) (Q := 18446744073709551615) ⟨hx.1, by omega⟩ ⟨hy.1, by omega⟩
  rw [em] at ep
  refine ⟨((l + w.getD (i + j) 0) % 18446744073709551616 + c) % 18446744073709551616, h + (l + w.getD (i + j) 0) / 18446744073709551616 + ((l + w.getD (i + j) 0) % 18446744073709551616 + c) / 18446744073709551616, by omega, by omega, by omega, ?_⟩
  rw [postilionref04_Times.p2, decide_eq_true (show (j : Int) < 4 by omega)]
  simp only [br]
  rw [wrap_i64_of (x := (i : Int) + j) (by omega) (by omega), show ((i : Int) + j).toNat = i + j by omega, show (i : Int).toNat = i by omega, show (j : Int).toNat = j by omega]
  rw [chk_pos ⟨by omega, by omega⟩, chk_pos ⟨by omega, by omega⟩]
  refine sbd e ?_
  refine lt_rw rfl ?_
  refine lt_rw rfl ?_
  rw [chk_pos ⟨by omega, by omega⟩, chk_pos ⟨bl.1, hv.1, by decide, by decide⟩]
  refine lt_rw (by rw [Int.add_zero]) ?_
  refine lt_rw (by rw [Int.add_zero]) ?_
  refine lt_rw (y := h + (l + w.getD (i + j) 0) / 18446744073709551616) (wrap_u64_of (by omega) (by omega)) ?_
  rw [chk_pos ⟨by omega, hc.1, by decide, by decide⟩]
  refine lt_rw (by rw [Int.add_zero]) ?_
  refine lt_rw (by rw [Int.add_zero]) ?_
  refine lt_rw (y := h + (l + w.getD (i + j) 0) / 18446744073709551616 + ((l + w.getD (i + j) 0) % 18446744073709551616 + c) / 18446744073709551616) (wrap_u64_of (by omega) (by omega)) ?_
  exact lt_rw (wrap_i64_of (by omega) (by omega)) rfl
theorem row0 (k : Nat) (hk : 5 ≤ k) {x0 x1 x2 x3 y0 y1 y2 y3 v0 v1 v2 v3 v4 v5 v6 v7 : Int} (hx : (0 ≤ x0 ∧ x0 < 18446744073709551616)) (hy0 : (0 ≤ y0 ∧ y0 < 18446744073709551616)) (hy1 : (0 ≤ y1 ∧ y1 < 18446744073709551616)) (hy2 : (0 ≤ y2 ∧ y2 < 18446744073709551616)) (hy3 : (0 ≤ y3 ∧ y3 < 18446744073709551616)) (hv0 : (0 ≤ v0 ∧ v0 < 18446744073709551616)) (hv1 : (0 ≤ v1 ∧ v1 < 18446744073709551616)) (hv2 : (0 ≤ v2 ∧ v2 < 18446744073709551616)) (hv3 : (0 ≤ v3 ∧ v3 < 18446744073709551616)) :
    ∃ r0 r1 r2 r3 q, (0 ≤ r0 ∧ r0 < 18446744073709551616) ∧ (0 ≤ r1 ∧ r1 < 18446744073709551616) ∧ (0 ≤ r2 ∧ r2 < 18446744073709551616) ∧ (0 ≤ r3 ∧ r3 < 18446744073709551616) ∧ (0 ≤ q ∧ q < 18446744073709551616) ∧ r0 + 18446744073709551616 * r1 + 340282366920938463463374607431768211456 * r2 + 6277101735386680763835789423207666416102355444464034512896 * r3 + 115792089237316195423570985008687907853269984665640564039457584007913129639936 * q = (v0 + 18446744073709551616 * v1 + 340282366920938463463374607431768211456 * v2 + 6277101735386680763835789423207666416102355444464034512896 * v3) + x0 * (y0 + 18446744073709551616 * y1 + 340282366920938463463374607431768211456 * y2 + 6277101735386680763835789423207666416102355444464034512896 * y3) ∧
      postilionref04_Times.p2 k 0 [x0, x1, x2, x3] [y0, y1, y2, y3] [v0, v1, v2, v3, v4, v5, v6, v7] 0 0 = some (q, [r0, r1, r2, r3, v4, v5, v6, v7]) := by
  obtain ⟨k, rfl⟩ := Nat.exists_eq_add_of_le' hk
  have hz : (0 : Int) ≤ 0 ∧ (0 : Int) < 18446744073709551616 := by decide
  obtain ⟨r0, q0, br0, bq0, e0, s0⟩ := mul_step (k + 4) 0 0 0 (by decide) (by decide) rfl (r5 := [x0, x1, x2, x3]) (r6 := [y0, y1, y2, y3]) (w := [v0, v1, v2, v3, v4, v5, v6, v7]) (c := 0) (x := x0) (y := y0) (v := v0) rfl rfl rfl rfl hx hy0 hv0 hz
  obtain ⟨r1, q1, br1, bq1, e1, s1⟩ := mul_step (k + 3) 0 1 1 (by decide) (by decide) rfl (r5 := [x0, x1, x2, x3]) (r6 := [y0, y1, y2, y3]) (w := [r0, v1, v2, v3, v4, v5, v6, v7]) (c := q0) (x := x0) (y := y1) (v := v1) rfl rfl rfl rfl hx hy1 hv1 bq0
  obtain ⟨r2, q2, br2, bq2, e2, s2⟩ := mul_step (k + 2) 0 2 2 (by decide) (by decide) rfl (r5 := [x0, x1, x2, x3]) (r6 := [y0, y1, y2, y3]) (w := [r0, r1, v2, v3, v4, v5, v6, v7]) (c := q1) (x := x0) (y := y2) (v := v2) rfl rfl rfl rfl hx hy2 hv2 bq1
  obtain ⟨r3, q3, br3, bq3, e3, s3⟩ := mul_step (k + 1) 0 3 3 (by decide) (by decide) rfl (r5 := [x0, x1, x2, x3]) (r6 := [y0, y1, y2, y3]) (w := [r0, r1, r2, v3, v4, v5, v6, v7]) (c := q2) (x := x0) (y := y3) (v := v3) rfl rfl rfl rfl hx hy3 hv3 bq2
  refine ⟨r0, r1, r2, r3, q3, br0, br1, br2, br3, bq3, ?_, s0.trans (s1.trans (s2.trans (s3.trans rfl)))⟩
  have em : x0 * (y0 + 18446744073709551616 * y1 + 340282366920938463463374607431768211456 * y2 + 6277101735386680763835789423207666416102355444464034512896 * y3) = x0 * y0 + 18446744073709551616 * (x0 * y1) + 340282366920938463463374607431768211456 * (x0 * y2) + 6277101735386680763835789423207666416102355444464034512896 * (x0 * y3) := by grind
  rw [em]
  omega
theorem row1 (k : Nat) (hk : 5 ≤ k) {x0 x1 x2 x3 y0 y1 y2 y3 v0 v1 v2 v3 v4 v5 v6 v7 : Int} (hx : (0 ≤ x1 ∧ x1 < 18446744073709551616)) (hy0 : (0 ≤ y0 ∧ y0 < 18446744073709551616)) (hy1 : (0 ≤ y1 ∧ y1 < 18446744073709551616)) (hy2 : (0 ≤ y2 ∧ y2 < 18446744073709551616)) (hy3 : (0 ≤ y3 ∧ y3 < 18446744073709551616)) (hv1 : (0 ≤ v1 ∧ v1 < 18446744073709551616)) (hv2 : (0 ≤ v2 ∧ v2 < 18446744073709551616)) (hv3 : (0 ≤ v3 ∧ v3 < 18446744073709551616)) (hv4 : (0 ≤ v4 ∧ v4 < 18446744073709551616)) :
    ∃ r0 r1 r2 r3 q, (0 ≤ r0 ∧ r0 < 18446744073709551616) ∧ (0 ≤ r1 ∧ r1 < 18446744073709551616) ∧ (0 ≤ r2 ∧ r2 < 18446744073709551616) ∧ (0 ≤ r3 ∧ r3 < 18446744073709551616) ∧ (0 ≤ q ∧ q < 18446744073709551616) ∧ r0 + 18446744073709551616 * r1 + 340282366920938463463374607431768211456 * r2 + 6277101735386680763835789423207666416102355444464034512896 * r3 + 115792089237316195423570985008687907853269984665640564039457584007913129639936 * q = (v1 + 18446744073709551616 * v2 + 340282366920938463463374607431768211456 * v3 + 6277101735386680763835789423207666416102355444464034512896 * v4) + x1 * (y0 + 18446744073709551616 * y1 + 340282366920938463463374607431768211456 * y2 + 6277101735386680763835789423207666416102355444464034512896 * y3) ∧
      postilionref04_Times.p2 k 1 [x0, x1, x2, x3] [y0, y1, y2, y3] [v0, v1, v2, v3, v4, v5, v6, v7] 0 0 = some (q, [v0, r0, r1, r2, r3, v5, v6, v7]) := by
  obtain ⟨k, rfl⟩ := Nat.exists_eq_add_of_le' hk
  have hz : (0 : Int) ≤ 0 ∧ (0 : Int) < 18446744073709551616 := by decide
  obtain ⟨r0, q0, br0, bq0, e0, s0⟩ := mul_step (k + 4) 1 0 1 (by decide) (by decide) rfl (r5 := [x0, x1, x2, x3]) (r6 := [y0, y1, y2, y3]) (w := [v0, v1, v2, v3, v4, v5, v6, v7]) (c := 0) (x := x1) (y := y0) (v := v1) rfl rfl rfl rfl hx hy0 hv1 hz
  obtain ⟨r1, q1, br1, bq1, e1, s1⟩ := mul_step (k + 3) 1 1 2 (by decide) (by decide) rfl (r5 := [x0, x1, x2, x3]) (r6 := [y0, y1, y2, y3]) (w := [v0, r0, v2, v3, v4, v5, v6, v7]) (c := q0) (x := x1) (y := y1) (v := v2) rfl rfl rfl rfl hx hy1 hv2 bq0
  obtain ⟨r2, q2, br2, bq2, e2, s2⟩ := mul_step (k + 2) 1 2 3 (by decide) (by decide) rfl (r5 := [x0, x1, x2, x3]) (r6 := [y0, y1, y2, y3]) (w := [v0, r0, r1, v3, v4, v5, v6, v7]) (c := q1) (x := x1) (y := y2) (v := v3) rfl rfl rfl rfl hx hy2 hv3 bq1
  obtain ⟨r3, q3, br3, bq3, e3, s3⟩ := mul_step (k + 1) 1 3 4 (by decide) (by decide) rfl (r5 := [x0, x1, x2, x3]) (r6 := [y0, y1, y2, y3]) (w := [v0, r0, r1, r2, v4, v5, v6, v7]) (c := q2) (x := x1) (y := y3) (v := v4) rfl rfl rfl rfl hx hy3 hv4 bq2
  refine ⟨r0, r1, r2, r3, q3, br0, br1, br2, br3, bq3, ?_, s0.trans (s1.trans (s2.trans (s3.trans rfl)))⟩
  have em : x1 * (y0 + 18446744073709551616 * y1 + 340282366920938463463374607431768211456 * y2 + 6277101735386680763835789423207666416102355444464034512896 * y3) = x1 * y0 + 18446744073709551616 * (x1 * y1) + 340282366920938463463374607431768211456 * (x1 * y2) + 6277101735386680763835789423207666416102355444464034512896 * (x1 * y3) := by grind
  rw [em]
  omega
theorem row2 (k : Nat) (hk : 5 ≤ k) {x0 x1 x2 x3 y0 y1 y2 y3 v0 v1 v2 v3 v4 v5 v6 v7 : Int} (hx : (0 ≤ x2 ∧ x2 < 18446744073709551616)) (hy0 : (0 ≤ y0 ∧ y0 < 18446744073709551616)) (hy1 : (0 ≤ y1 ∧ y1 < 18446744073709551616)) (hy2 : (0 ≤ y2 ∧ y2 < 18446744073709551616)) (hy3 : (0 ≤ y3 ∧ y3 < 18446744073709551616)) (hv2 : (0 ≤ v2 ∧ v2 < 18446744073709551616)) (hv3 : (0 ≤ v3 ∧ v3 < 18446744073709551616)) (hv4 : (0 ≤ v4 ∧ v4 < 18446744073709551616)) (hv5 : (0 ≤ v5 ∧ v5 < 18446744073709551616)) :
    ∃ r0 r1 r2 r3 q, (0 ≤ r0 ∧ r0 < 18446744073709551616) ∧ (0 ≤ r1 ∧ r1 < 18446744073709551616) ∧ (0 ≤ r2 ∧ r2 < 18446744073709551616) ∧ (0 ≤ r3 ∧ r3 < 18446744073709551616) ∧ (0 ≤ q ∧ q < 18446744073709551616) ∧ r0 + 18446744073709551616 * r1 + 340282366920938463463374607431768211456 * r2 + 6277101735386680763835789423207666416102355444464034512896 * r3 + 115792089237316195423570985008687907853269984665640564039457584007913129639936 * q = (v2 + 18446744073709551616 * v3 + 340282366920938463463374607431768211456 * v4 + 6277101735386680763835789423207666416102355444464034512896 * v5) + x2 * (y0 + 18446744073709551616 * y1 + 340282366920938463463374607431768211456 * y2 + 6277101735386680763835789423207666416102355444464034512896 * y3) ∧
      postilionref04_Times.p2 k 2 [x0, x1, x2, x3] [y0, y1, y2, y3] [v0, v1, v2, v3, v4, v5, v6, v7] 0 0 = some (q, [v0, v1, r0, r1, r2, r3, v6, v7]) := by
  obtain ⟨k, rfl⟩ := Nat.exists_eq_add_of_le' hk
  have hz : (0 : Int) ≤ 0 ∧ (0 : Int) < 18446744073709551616 := by decide
  obtain ⟨r0, q0, br0, bq0, e0, s0⟩ := mul_step (k + 4) 2 0 2 (by decide) (by decide) rfl (r5 := [x0, x1, x2, x3]) (r6 := [y0, y1, y2, y3]) (w := [v0, v1, v2, v3, v4, v5, v6, v7]) (c := 0) (x := x2) (y := y0) (v := v2) rfl rfl rfl rfl hx hy0 hv2 hz
  obtain ⟨r1, q1, br1, bq1, e1, s1⟩ := mul_step (k + 3) 2 1 3 (by decide) (by decide) rfl (r5 := [x0, x1, x2, x3]) (r6 := [y0, y1, y2, y3]) (w := [v0, v1, r0, v3, v4, v5, v6, v7]) (c := q0) (x := x2) (y := y1) (v := v3) rfl rfl rfl rfl hx hy1 hv3 bq0
  obtain ⟨r2, q2, br2, bq2, e2, s2⟩ := mul_step (k + 2) 2 2 4 (by decide) (by decide) rfl (r5 := [x0, x1, x2, x3]) (r6 := [y0, y1, y2, y3]) (w := [v0, v1, r0, r1, v4, v5, v6, v7]) (c := q1) (x := x2) (y := y2) (v := v4) rfl rfl rfl rfl hx hy2 hv4 bq1
  obtain ⟨r3, q3, br3, bq3, e3, s3⟩ := mul_step (k + 1) 2 3 5 (by decide) (by decide) rfl (r5 := [x0, x1, x2, x3]) (r6 := [y0, y1, y2, y3]) (w := [v0, v1, r0, r1, r2, v5, v6, v7]) (c := q2) (x := x2) (y := y3) (v := v5) rfl rfl rfl rfl hx hy3 hv5 bq2
  refine ⟨r0, r1, r2, r3, q3, br0, br1, br2, br3, bq3, ?_, s0.trans (s1.trans (s2.trans (s3.trans rfl)))⟩
  have em : x2 * (y0 + 18446744073709551616 * y1 + 340282366920938463463374607431768211456 * y2 + 6277101735386680763835789423207666416102355444464034512896 * y3) = x2 * y0 + 18446744073709551616 * (x2 * y1) + 340282366920938463463374607431768211456 * (x2 * y2) + 6277101735386680763835789423207666416102355444464034512896 * (x2 * y3) := by grind
  rw [em]
  omega
theorem row3 (k : Nat) (hk : 5 ≤ k) {x0 x1 x2 x3 y0 y1 y2 y3 v0 v1 v2 v3 v4 v5 v6 v7 : Int} (hx : (0 ≤ x3 ∧ x3 < 18446744073709551616)) (hy0 : (0 ≤ y0 ∧ y0 < 18446744073709551616)) (hy1 : (0 ≤ y1 ∧ y1 < 18446744073709551616)) (hy2 : (0 ≤ y2 ∧ y2 < 18446744073709551616)) (hy3 : (0 ≤ y3 ∧ y3 < 18446744073709551616)) (hv3 : (0 ≤ v3 ∧ v3 < 18446744073709551616)) (hv4 : (0 ≤ v4 ∧ v4 < 18446744073709551616)) (hv5 : (0 ≤ v5 ∧ v5 < 18446744073709551616)) (hv6 : (0 ≤ v6 ∧ v6 < 18446744073709551616)) :
    ∃ r0 r1 r2 r3 q, (0 ≤ r0 ∧ r0 < 18446744073709551616) ∧ (0 ≤ r1 ∧ r1 < 18446744073709551616) ∧ (0 ≤ r2 ∧ r2 < 18446744073709551616) ∧ (0 ≤ r3 ∧ r3 < 18446744073709551616) ∧ (0 ≤ q ∧ q < 18446744073709551616) ∧ r0 + 18446744073709551616 * r1 + 340282366920938463463374607431768211456 * r2 + 6277101735386680763835789423207666416102355444464034512896 * r3 + 115792089237316195423570985008687907853269984665640564039457584007913129639936 * q = (v3 + 18446744073709551616 * v4 + 340282366920938463463374607431768211456 * v5 + 6277101735386680763835789423207666416102355444464034512896 * v6) + x3 * (y0 + 18446744073709551616 * y1 + 340282366920938463463374607431768211456 * y2 + 6277101735386680763835789423207666416102355444464034512896 * y3) ∧
      postilionref04_Times.p2 k 3 [x0, x1, x2, x3] [y0, y1, y2, y3] [v0, v1, v2, v3, v4, v5, v6, v7] 0 0 = some (q, [v0, v1, v2, r0, r1, r2, r3, v7]) := by
  obtain ⟨k, rfl⟩ := Nat.exists_eq_add_of_le' hk
  have hz : (0 : Int) ≤ 0 ∧ (0 : Int) < 18446744073709551616 := by decide
  obtain ⟨r0, q0, br0, bq0, e0, s0⟩ := mul_step (k + 4) 3 0 3 (by decide) (by decide) rfl (r5 := [x0, x1, x2, x3]) (r6 := [y0, y1, y2, y3]) (w := [v0, v1, v2, v3, v4, v5, v6, v7]) (c := 0) (x := x3) (y := y0) (v := v3) rfl rfl rfl rfl hx hy0 hv3 hz
  obtain ⟨r1, q1, br1, bq1, e1, s1⟩ := mul_step (k + 3) 3 1 4 (by decide) (by decide) rfl (r5 := [x0, x1, x2, x3]) (r6 := [y0, y1, y2, y3]) (w := [v0, v1, v2, r0, v4, v5, v6, v7]) (c := q0) (x := x3) (y := y1) (v := v4) rfl rfl rfl rfl hx hy1 hv4 bq0
  obtain ⟨r2, q2, br2, bq2, e2, s2⟩ := mul_step (k + 2) 3 2 5 (by decide) (by decide) rfl (r5 := [x0, x1, x2, x3]) (r6 := [y0, y1, y2, y3]) (w := [v0, v1, v2, r0, r1, v5, v6, v7]) (c := q1) (x := x3) (y := y2) (v := v5) rfl rfl rfl rfl hx hy2 hv5 bq1
  obtain ⟨r3, q3, br3, bq3, e3, s3⟩ := mul_step (k + 1) 3 3 6 (by decide) (by decide) rfl (r5 := [x0, x1, x2, x3]) (r6 := [y0, y1, y2, y3]) (w := [v0, v1, v2, r0, r1, r2, v6, v7]) (c := q2) (x := x3) (y := y3) (v := v6) rfl rfl rfl rfl hx hy3 hv6 bq2
  refine ⟨r0, r1, r2, r3, q3, br0, br1, br2, br3, bq3, ?_, s0.trans (s1.trans (s2.trans (s3.trans rfl)))⟩
  have em : x3 * (y0 + 18446744073709551616 * y1 + 340282366920938463463374607431768211456 * y2 + 6277101735386680763835789423207666416102355444464034512896 * y3) = x3 * y0 + 18446744073709551616 * (x3 * y1) + 340282366920938463463374607431768211456 * (x3 * y2) + 6277101735386680763835789423207666416102355444464034512896 * (x3 * y3) := by grind
  rw [em]
  omega
theorem outer_step (k i : Nat) (hi : i < 4) {r5 r6 w w' w'' : List Int} {q ii : Int} (e : postilionref04_Times.p2 k (i : Int) r5 r6 w 0 0 = some (q, w')) (es : w'.set (i + 4) q = w'') (ei : (i : Int) + 1 = ii) :
    postilionref04_Times.p1 (k + 1) r5 r6 w (i : Int) = postilionref04_Times.p1 k r5 r6 w'' ii := by
  subst es ei
  rw [postilionref04_Times.p1, decide_eq_true (show (i : Int) < 4 by omega)]
  refine sbd e ?_
  show chk _ _ = _
  rw [wrap_i64_of (x := (i : Int) + 4) (by omega) (by omega), chk_pos ⟨by omega, by omega⟩, show ((i : Int) + 4).toNat = i + 4 by omega]
  exact lt_rw (wrap_i64_of (by omega) (by omega)) rfl
theorem wide_spec (k : Nat) (hk : 10 ≤ k) {x y : List Int} {m n : Int} (hx : Num x m) (hy : Num y n) :
    ∃ w, postilionref04_Times.p1 k x y (List.replicate 8 0) 0 = some w ∧ w.length = 8 ∧ W w ∧ V w = m * n := by
  obtain ⟨k, rfl⟩ := Nat.exists_eq_add_of_le' hk
  obtain ⟨x0, x1, x2, x3, rfl, c0, c1, c2, c3, e⟩ := hx.cases
  obtain ⟨y0, y1, y2, y3, rfl, d0, d1, d2, d3, e'⟩ := hy.cases
  have hz : (0 : Int) ≤ 0 ∧ (0 : Int) < 18446744073709551616 := by decide
  obtain ⟨r0, r1, r2, r3, r4, b0, b1, b2, b3, b4, g0, s0⟩ := row0 (k + 9) (by omega) (x0 := x0) (x1 := x1) (x2 := x2) (x3 := x3) (v0 := 0) (v1 := 0) (v2 := 0) (v3 := 0) (v4 := 0) (v5 := 0) (v6 := 0) (v7 := 0) c0 d0 d1 d2 d3 hz hz hz hz
  obtain ⟨t1, t2, t3, t4, t5, f1, f2, f3, f4, f5, g1, s1⟩ := row1 (k + 8) (by omega) (x0 := x0) (x1 := x1) (x2 := x2) (x3 := x3) (v0 := r0) (v5 := 0) (v6 := 0) (v7 := 0) c1 d0 d1 d2 d3 b1 b2 b3 b4
  obtain ⟨u2, u3, u4, u5, u6, h2, h3, h4, h5, h6, g2, s2⟩ := row2 (k + 7) (by omega) (x0 := x0) (x1 := x1) (x2 := x2) (x3 := x3) (v0 := r0) (v1 := t1) (v6 := 0) (v7 := 0) c2 d0 d1 d2 d3 f2 f3 f4 f5
  obtain ⟨z3, z4, z5, z6, z7, i3, i4, i5, i6, i7, g3, s3⟩ := row3 (k + 6) (by omega) (x0 := x0) (x1 := x1) (x2 := x2) (x3 := x3) (v0 := r0) (v1 := t1) (v2 := u2) (v7 := 0) c3 d0 d1 d2 d3 h3 h4 h5 h6
  have o0 := outer_step (k + 9) 0 (by decide) s0 rfl rfl
  have o1 := outer_step (k + 8) 1 (by decide) s1 rfl rfl
  have o2 := outer_step (k + 7) 2 (by decide) s2 rfl rfl
  have o3 := outer_step (k + 6) 3 (by decide) s3 rfl rfl
  refine ⟨[r0, t1, u2, z3, z4, z5, z6, z7], o0.trans (o1.trans (o2.trans (o3.trans rfl))), rfl, ?_, ?_⟩
  · simp only [W_cons]; exact ⟨b0, f1, h2, i3, i4, i5, i6, i7, W_nil⟩
  · rw [← e'] at g0 g1 g2 g3
    have em : m * n = x0 * n + 18446744073709551616 * (x1 * n) + 340282366920938463463374607431768211456 * (x2 * n) + 6277101735386680763835789423207666416102355444464034512896 * (x3 * n) := by rw [e]; grind
    rw [em]
    simp only [V]
    clear em e e' o0 o1 o2 o3 s0 s1 s2 s3
    generalize x0 * n = p0 at *
    generalize x1 * n = p1 at *
    generalize x2 * n = p2 at *
    generalize x3 * n = p3 at *
    omega
theorem from_spec (k : Nat) (hk : 50 ≤ k) {a : List Int} (ha : By a 32) : ∃ c, postilionref04_From.f k a = some c ∧ Num c (B a) := by
  obtain ⟨c, ec, nc⟩ := from_loop 32 k (by omega) ha (by decide) (z := List.replicate 4 0) zero_num
  exact ⟨c, by unfold postilionref04_From.f; exact sbd ec rfl, nc⟩
theorem p_num : Num [18446744073709551597, 18446744073709551615, 18446744073709551615, 9223372036854775807] p :=
  Num.mk' (by decide) (by decide) (by decide) (by decide) (by decide)
theorem least_done (k : Nat) (hk : 5 ≤ k) {a : List Int} {m : Int} (h : Num a m) (hlt : m < p) : postilionref04_Least.p1 (k + 1) a = some a := by
  have hb := below_spec k hk h p_num
  rw [decide_eq_true hlt] at hb
  unfold postilionref04_Least.p1
  exact sbd (x := postilionref04_p.f) rfl (sbd hb (sbf rfl rfl))
theorem least_more (k : Nat) (hk : 5 ≤ k) {a : List Int} {m : Int} (h : Num a m) (hlt : ¬ m < p) : ∃ c, postilionref04_Least.p1 (k + 1) a = postilionref04_Least.p1 k c ∧ Num c (m - p) := by
  have hb := below_spec k hk h p_num
  rw [decide_eq_false hlt] at hb
  obtain ⟨c, ec, nc⟩ := dif_spec k hk h p_num (by omega)
  refine ⟨c, ?_, nc⟩
  rw [postilionref04_Least.p1]
  exact sbd (x := postilionref04_p.f) rfl (sbd hb (sbt rfl (sbd (x := postilionref04_p.f) rfl (sbd ec rfl))))
theorem least_spec (k : Nat) (hk : 9 ≤ k) {a : List Int} {m : Int} (h : Num a m) : ∃ c, postilionref04_Least.f k a = some c ∧ Num c (m % p) := by
  obtain ⟨k, rfl⟩ := Nat.exists_eq_add_of_le' hk
  have hb := h.bound
  have hp3 : (115792089237316195423570985008687907853269984665640564039457584007913129639936 : Int) ≤ p + p + p := by decide
  suffices hs : ∃ c, postilionref04_Least.p1 (k + 9) a = some c ∧ Num c (m % p) by
    obtain ⟨c, ec, nc⟩ := hs
    exact ⟨c, by unfold postilionref04_Least.f; exact sbd ec rfl, nc⟩
  by_cases h0 : m < p
  · exact ⟨a, least_done (k + 8) (by omega) h h0, by rw [Int.emod_eq_of_lt hb.1 h0]; exact h⟩
  · obtain ⟨c, ec, nc⟩ := least_more (k + 8) (by omega) h h0
    by_cases h1 : m - p < p
    · refine ⟨c, ec.trans (least_done (k + 7) (by omega) nc h1), ?_⟩
      rw [← Int.sub_emod_right, Int.emod_eq_of_lt (by omega) h1]; exact nc
    · obtain ⟨d, ed, nd⟩ := least_more (k + 7) (by omega) nc h1
      have h2 : m - p - p < p := by omega
      refine ⟨d, ec.trans (ed.trans (least_done (k + 6) (by omega) nd h2)), ?_⟩
      rw [← Int.sub_emod_right, ← Int.sub_emod_right, Int.emod_eq_of_lt (by omega) h2]; exact nd
theorem bytes_law (k : Nat) (hk : 50 ≤ k) {a : List Int} {m : Int} (h : Num a m) : postilionref04_Bytes.f k a = some (toB 32 (m % p)) := by
  obtain ⟨c, ec, nc⟩ := least_spec k (by omega) h
  unfold postilionref04_Bytes.f
  have := bytes_loop 32 k (by omega) c (by decide)
  rw [Nat.sub_self, fil_zero] at this
  refine sbd ec (sbd this ?_)
  have e : (List.range 32).map (wb c) = toB 32 (m % p) := eq_toB (wb_u8 c 32) (by simp) (by have := wb_bytes c nc.w; rw [nc.len, nc.v] at this; exact this)
  rw [e]
theorem fold_step (k : Nat) {a : List Int} {n h : Int} (ha : Num a n) (hh : 0 < h ∧ h < 18446744073709551616) :
    ∃ r n' c, postilionref04_fold.p1 (k + 1) a h = postilionref04_fold.p1 k r c ∧ Num r n' ∧ (0 ≤ c ∧ c ≤ 1) ∧ n' + 115792089237316195423570985008687907853269984665640564039457584007913129639936 * c = n + 38 * h := by
  obtain ⟨x0, x1, x2, x3, rfl, a0, a1, a2, a3, e⟩ := ha.cases
  obtain ⟨hi, lo, em, bh, bl, ee⟩ := mul_spec (b := 38) ⟨by omega, hh.2⟩ (by decide)
  have hi38 : hi < 38 := by omega
  obtain ⟨r0, c1, q0, q0', g0, l0, u0⟩ := dm (x0 + lo + 0)
  have h0 : 0 ≤ c1 ∧ c1 ≤ 1 := by omega
  obtain ⟨r1, c2, q1, q1', g1, l1, u1⟩ := dm (x1 + hi + c1)
  have h1 : 0 ≤ c2 ∧ c2 ≤ 1 := by omega
  obtain ⟨r2, c3, q2, q2', g2, l2, u2⟩ := dm (x2 + 0 + c2)
  have h2 : 0 ≤ c3 ∧ c3 ≤ 1 := by omega
  obtain ⟨r3, c4, q3, q3', g3, l3, u3⟩ := dm (x3 + 0 + c3)
  refine ⟨[r0, r1, r2, r3], _, c4, ?_, Num.mk' ⟨l0, u0⟩ ⟨l1, u1⟩ ⟨l2, u2⟩ ⟨l3, u3⟩ rfl, by omega, by omega⟩
  rw [postilionref04_fold.p1]
  refine sbt (bne_iff_ne.mpr (by omega)) (sbd em (lt_rw rfl (lt_rw rfl ?_)))
  show chk (0 ≤ x0 ∧ 0 ≤ lo ∧ 0 ≤ (0 : Int) ∧ (0 : Int) ≤ 1) (lt ((x0 + lo + 0) / 18446744073709551616) _) = _
  rw [chk_pos ⟨a0.1, bl.1, by decide, by decide⟩]
  refine lt_rw q0' ?_
  simp only [List.set_cons_zero, List.set_cons_succ, List.getD_cons_zero, List.getD_cons_succ, q0]
  rw [chk_pos ⟨a1.1, bh.1, h0.1, h0.2⟩]
  refine lt_rw q1' (lt_rwl (y := [r0, r1, x2, x3]) (by rw [← q1]) ?_)
  simp only [List.set_cons_zero, List.set_cons_succ, List.getD_cons_zero, List.getD_cons_succ]
  rw [chk_pos ⟨a2.1, by decide, h1.1, h1.2⟩]
  refine lt_rw q2' (lt_rwl (y := [r0, r1, r2, x3]) (by rw [← q2]) ?_)
  simp only [List.getD_cons_zero, List.getD_cons_succ, List.set_cons_zero, List.set_cons_succ]
  rw [chk_pos ⟨a3.1, by decide, h2.1, h2.2⟩]
  exact lt_rw q3' (lt_rwl (y := [r0, r1, r2, r3]) (by rw [← q3]) rfl)
theorem fold_done (k : Nat) (a : List Int) : postilionref04_fold.p1 (k + 1) a 0 = some a := rfl
/-- four words with a number that is m modulo p -/
def Rn (l : List Int) (m : Int) : Prop := ∃ n, Num l n ∧ n % p = m % p
theorem Num.rn {l : List Int} {m : Int} (h : Num l m) : Rn l m := ⟨m, h, rfl⟩
theorem Rn.cong {l : List Int} {m n : Int} (h : Rn l m) (e : m % p = n % p) : Rn l n := by obtain ⟨x, hx, h⟩ := h; exact ⟨x, hx, h.trans e⟩
theorem Rn.eq {l : List Int} {m n : Int} (h : Rn l m) (e : m = n) : Rn l n := e ▸ h
theorem fold_spec (k : Nat) (hk : 4 ≤ k) {a : List Int} {n h : Int} (ha : Num a n) (hh : 0 ≤ h ∧ h < 18446744073709551616) : ∃ c, postilionref04_fold.f k a h = some c ∧ Rn c (n + 38 * h) := by
  obtain ⟨k, rfl⟩ := Nat.exists_eq_add_of_le' hk
  have hpp : (115792089237316195423570985008687907853269984665640564039457584007913129639936 : Int) = p * 2 + 38 := by decide
  unfold postilionref04_fold.f
  by_cases h0 : h = 0
  · subst h0; exact ⟨a, sbd (fold_done (k + 3) a) rfl, n, ha, by rw [Int.mul_zero, Int.add_zero]⟩
  · obtain ⟨r, n1, c, e1, hn1, hc, hv⟩ := fold_step (k + 3) ha ⟨by omega, hh.2⟩
    have b0 := ha.bound
    by_cases c0 : c = 0
    · subst c0; exact ⟨r, sbd (e1.trans (fold_done (k + 2) r)) rfl, n1, hn1, by rw [← hv]; simp⟩
    · have c1 : c = 1 := by omega
      subst c1
      obtain ⟨r2, n2, c2, e2, hn2, hc2, hv2⟩ := fold_step (k + 2) hn1 (h := 1) (by decide)
      have c20 : c2 = 0 := by have := hn2.bound; omega
      subst c20
      refine ⟨r2, sbd (e1.trans (e2.trans (fold_done (k + 1) r2))) rfl, n2, hn2, ?_⟩
      rw [← hv, show n2 = n1 + 38 by omega, hpp, show n1 + (p * 2 + 38) * 1 = n1 + 38 + p * 2 by omega, Int.add_mul_emod_self_left]
theorem plus_spec (k : Nat) (hk : 9 ≤ k) {a b : List Int} {m n : Int} (ha : Rn a m) (hb : Rn b n) : ∃ c, postilionref04_Plus.f k a b = some c ∧ Rn c (m + n) := by
  obtain ⟨x, hx, ex⟩ := ha
  obtain ⟨y, hy, ey⟩ := hb
  obtain ⟨h, c, n', e1, hh, hn, hv⟩ := sum_spec k (by omega) hx hy
  obtain ⟨d, e2, n2, hd, hv2⟩ := fold_spec k (by omega) hn (h := h) (by omega)
  refine ⟨d, by unfold postilionref04_Plus.f; exact sbd e1 (sbd e2 rfl), n2, hd, ?_⟩
  rw [hv2, ← cg_add ex ey, ← hv, show (115792089237316195423570985008687907853269984665640564039457584007913129639936 : Int) = p * 2 + 38 by decide,
    show n' + (p * 2 + 38) * h = n' + 38 * h + p * (2 * h) by rw [Int.add_mul, Int.mul_assoc]; omega, Int.add_mul_emod_self_left]
theorem minus_spec (k : Nat) (hk : 9 ≤ k) {a b : List Int} {m n : Int} (ha : Rn a m) (hb : Rn b n) : ∃ c, postilionref04_Minus.f k a b = some c ∧ Rn c (m - n) := by
  obtain ⟨y, hy, ey⟩ := hb
  obtain ⟨c, e1, h1⟩ := least_spec k hk hy
  obtain ⟨d, e2, h2⟩ := dif_spec k (by omega) p_num h1 (Int.le_of_lt (mp y).2)
  obtain ⟨e, e3, h3⟩ := plus_spec k hk ha h2.rn
  refine ⟨e, by unfold postilionref04_Minus.f; exact sbd (x := postilionref04_p.f) rfl (sbd e1 (sbd e2 (sbd e3 rfl))), h3.cong ?_⟩
  rw [show m + (p - y % p) = m - y % p + p by omega, Int.add_emod_right]
  exact cg_sub rfl (by rw [Int.emod_emod, ey])
theorem high_step (k i : Nat) (hi : i < 4) {w y : List Int} {h c x v : Int} {ii : Int} (ex : y.getD i 0 = x) (ev : w.getD (i + 4) 0 = v) (eii : (i : Int) + 1 = ii)
    (hx : 0 ≤ x ∧ x < 18446744073709551616) (hv : 0 ≤ v ∧ v < 18446744073709551616) (hh : 0 ≤ h ∧ h ≤ 38) (hc : 0 ≤ c ∧ c ≤ 1) :
    ∃ r h' c', (0 ≤ r ∧ r < 18446744073709551616) ∧ (0 ≤ h' ∧ h' ≤ 38) ∧ (0 ≤ c' ∧ c' ≤ 1) ∧ r + 18446744073709551616 * (h' + c') = x + 38 * v + h + c ∧
      postilionref04_Times.p3 (k + 1) w y h c (i : Int) = postilionref04_Times.p3 k w (y.set i r) h' c' ii := by
  subst ex ev eii
  obtain ⟨hi', l, e, bh, bl, em⟩ := mul_spec (b := 38) hv (by decide)
  refine ⟨(y.getD i 0 + (l + h) % 18446744073709551616 + c) % 18446744073709551616, hi' + (l + h) / 18446744073709551616, (y.getD i 0 + (l + h) % 18446744073709551616 + c) / 18446744073709551616, by omega, by omega, by omega, by omega, ?_⟩
  rw [postilionref04_Times.p3, decide_eq_true (show (i : Int) < 4 by omega)]
  simp only [br]
  rw [wrap_i64_of (x := (i : Int) + 4) (by omega) (by omega), show ((i : Int) + 4).toNat = i + 4 by omega, show (i : Int).toNat = i by omega]
  rw [chk_pos ⟨by omega, by omega⟩]
  refine sbd e (lt_rw rfl (lt_rw rfl ?_))
  rw [chk_pos ⟨bl.1, hh.1, by decide, by decide⟩]
  refine lt_rw (by rw [Int.add_zero]) (lt_rw (by rw [Int.add_zero]) ?_)
  refine lt_rw (y := hi' + (l + h) / 18446744073709551616) (wrap_u64_of (by omega) (by omega)) ?_
  rw [chk_pos ⟨by omega, by omega⟩, chk_pos ⟨hx.1, by omega, hc.1, hc.2⟩]
  exact lt_rw rfl (lt_rw (wrap_i64_of (by omega) (by omega)) rfl)
theorem times_spec (k : Nat) (hk : 12 ≤ k) {a b : List Int} {m n : Int} (ha : Rn a m) (hb : Rn b n) : ∃ c, postilionref04_Times.f k a b = some c ∧ Rn c (m * n) := by
  obtain ⟨x, hx, ex⟩ := ha
  obtain ⟨y, hy, ey⟩ := hb
  obtain ⟨w, e1, hl, hw, hv⟩ := wide_spec k (by omega) hx hy
  match w, hl with
  | [w0, w1, w2, w3, w4, w5, w6, w7], _ =>
    simp only [W_cons] at hw
    obtain ⟨b0, b1, b2, b3, b4, b5, b6, b7, _⟩ := hw
    simp only [V] at hv
    obtain ⟨k, rfl⟩ := Nat.exists_eq_add_of_le' (show 12 ≤ k from hk)
    obtain ⟨r0, h0, c0, s0, t0, u0, v0, f0⟩ := high_step (k + 11) 0 (by decide) (w := [w0, w1, w2, w3, w4, w5, w6, w7]) (y := [w0, w1, w2, w3]) (h := 0) (c := 0) (x := w0) (v := w4) rfl rfl rfl b0 b4 (by decide) (by decide)
    obtain ⟨r1, h1, c1, s1, t1, u1, v1, f1⟩ := high_step (k + 10) 1 (by decide) (w := [w0, w1, w2, w3, w4, w5, w6, w7]) (y := [r0, w1, w2, w3]) (x := w1) (v := w5) rfl rfl rfl b1 b5 t0 u0
    obtain ⟨r2, h2, c2, s2, t2, u2, v2, f2⟩ := high_step (k + 9) 2 (by decide) (w := [w0, w1, w2, w3, w4, w5, w6, w7]) (y := [r0, r1, w2, w3]) (x := w2) (v := w6) rfl rfl rfl b2 b6 t1 u1
    obtain ⟨r3, h3, c3, s3, t3, u3, v3, f3⟩ := high_step (k + 8) 3 (by decide) (w := [w0, w1, w2, w3, w4, w5, w6, w7]) (y := [r0, r1, r2, w3]) (x := w3) (v := w7) rfl rfl rfl b3 b7 t2 u2
    have f4 : postilionref04_Times.p3 (k + 8) [w0, w1, w2, w3, w4, w5, w6, w7] [r0, r1, r2, r3] h3 c3 4 = some (h3, c3, [r0, r1, r2, r3]) := rfl
    have nr : Num [r0, r1, r2, r3] _ := Num.mk' s0 s1 s2 s3 rfl
    obtain ⟨d, e2, n2, hd, hv2⟩ := fold_spec (k + 12) (by omega) nr (h := h3 + c3) (by omega)
    refine ⟨d, ?_, n2, hd, ?_⟩
    · unfold postilionref04_Times.f
      refine sbd e1 (sbd (f0.trans (f1.trans (f2.trans (f3.trans f4)))) ?_)
      show bd (postilionref04_fold.f (k + 12) [r0, r1, r2, r3] (IntKind.u64.wrap (h3 + c3))) _ = _
      rw [wrap_u64_of (by omega) (by omega)]
      exact sbd e2 rfl
    · rw [hv2, ← cg_mul ex ey, ← hv, show (p : Int) = 57896044618658097711785492504343953926634992332820282019728792003956564819949 from rfl]
      clear e1 hv2 hd nr f0 f1 f2 f3 f4 hk
      have hq : (r0 + 18446744073709551616 * r1 + 340282366920938463463374607431768211456 * r2 + 6277101735386680763835789423207666416102355444464034512896 * r3 + 38 * (h3 + c3)) =
          (w0 + 18446744073709551616 * (w1 + 18446744073709551616 * (w2 + 18446744073709551616 * (w3 + 18446744073709551616 * (w4 + 18446744073709551616 * (w5 + 18446744073709551616 * (w6 + 18446744073709551616 * (w7 + 18446744073709551616 * 0)))))))) +
            57896044618658097711785492504343953926634992332820282019728792003956564819949 * (-2 * (w4 + 18446744073709551616 * w5 + 340282366920938463463374607431768211456 * w6 + 6277101735386680763835789423207666416102355444464034512896 * w7) - 2 * (h3 + c3)) := by omega
      rw [hq, Int.add_mul_emod_self_left]
theorem pow_double (m : Int) (E : Int) (i : Nat) (hE : 0 ≤ E) : (E / 2 ^ i).toNat = 2 * (E / 2 ^ (i + 1)).toNat + (E / 2 ^ i % 2).toNat := by
  have h := bit_step E i
  have h1 : 0 ≤ E / 2 ^ (i + 1) := Int.ediv_nonneg hE (Int.le_of_lt (Int.pow_pos (by decide)))
  omega
theorem power_step (k : Nat) (hk : 12 ≤ k) {a e z : List Int} {m E : Int} (ha : Rn a m) (he : Num e E) (i : Nat) (hi : i < 256) (hz : Rn z (m ^ (E / 2 ^ (i + 1)).toNat)) :
    ∃ c, postilionref04_Power.p2 k (i : Int) a e z = some c ∧ Rn c (m ^ (E / 2 ^ i).toNat) := by
  obtain ⟨d, ed, nd⟩ := times_spec k hk hz hz
  have hb : 0 ≤ e.getD (i / 64) 0 ∧ e.getD (i / 64) 0 < 18446744073709551616 := by
    have hlt : i / 64 < e.length := by rw [he.len]; omega
    rw [List.getD_eq_getElem?_getD, List.getElem?_eq_getElem hlt]
    exact he.w _ (List.getElem_mem hlt)
  have hdv := div_le hb.1 (i % 64)
  have hbit := bitV he.w i
  rw [he.v] at hbit
  have hs := pow_double m E i he.bound.1
  have e3 : ∃ c, postilionref04_Power.p3 k (e.getD (i / 64) 0 / 2 ^ (i % 64) % 2 == 1) a d = some c ∧ Rn c (m ^ (E / 2 ^ i).toNat) := by
    rw [hbit]
    unfold postilionref04_Power.p3
    rw [hs, Int.pow_add, Nat.two_mul, Int.pow_add]
    by_cases h : E / 2 ^ i % 2 = 1
    · obtain ⟨c, ec, nc⟩ := times_spec k hk nd ha
      exact ⟨c, sbt (beq_iff_eq.mpr h) (sbd ec rfl), nc.eq (by rw [h]; show _ = _ * m ^ 1; rw [Int.pow_succ m 0, Int.pow_zero, Int.one_mul])⟩
    · refine ⟨d, sbf (beq_eq_false_iff_ne.mpr h) rfl, nd.eq ?_⟩
      rw [show E / 2 ^ i % 2 = 0 by omega]; show _ = _ * m ^ 0; rw [Int.pow_zero, Int.mul_one]
  obtain ⟨c, ec, nc⟩ := e3
  refine ⟨c, ?_, nc⟩
  unfold postilionref04_Power.p2
  refine sbd ed ?_
  rw [show Int.tdiv (i : Int) 64 = ((i / 64 : Nat) : Int) from rfl, show Int.tmod (i : Int) 64 = ((i % 64 : Nat) : Int) from rfl]
  rw [wrap_i64_of (x := ((i / 64 : Nat) : Int)) (by omega) (by omega), wrap_u64_of (x := ((i % 64 : Nat) : Int)) (by omega) (by omega)]
  rw [chk_pos ⟨by omega, by omega⟩, chk_pos (by omega)]
  rw [show (((i / 64 : Nat) : Int)).toNat = i / 64 by omega, show (((i % 64 : Nat) : Int)).toNat = i % 64 by omega]
  rw [show min (i % 64) IntKind.u64.bits = i % 64 from Nat.min_eq_left (show i % 64 ≤ 64 by omega), fd _ _ (Int.le_of_lt (Int.pow_pos (by decide))), and1_u64 _ (by omega)]
  exact lt_rwb rfl (sbd ec rfl)
theorem power_loop (d k : Nat) (hk : d + 13 ≤ k) {a e z : List Int} {m E : Int} (ha : Rn a m) (he : Num e E) (hd : d ≤ 256) (hz : Rn z (m ^ (E / 2 ^ d).toNat)) :
    ∃ c, postilionref04_Power.p1 k a e z ((d : Int) - 1) = some c ∧ Rn c (m ^ E.toNat) := by
  induction d generalizing k z with
  | zero =>
    obtain ⟨k, rfl⟩ := Nat.exists_eq_add_of_le' (show 1 ≤ k by omega)
    rw [Int.pow_zero, Int.ediv_one] at hz
    exact ⟨z, rfl, hz⟩
  | succ d ih =>
    obtain ⟨k, rfl⟩ := Nat.exists_eq_add_of_le' (show 1 ≤ k by omega)
    obtain ⟨c, ec, nc⟩ := power_step k (by omega) ha he d (by omega) hz
    obtain ⟨e', ee, ne⟩ := ih k (by omega) (by omega) nc
    refine ⟨e', ?_, ne⟩
    rw [postilionref04_Power.p1, show ((d + 1 : Nat) : Int) - 1 = (d : Int) by omega, decide_eq_true (show (d : Int) ≥ 0 by omega)]
    exact sbd ec (lt_rw (wrap_i64_of (by omega) (by omega)) ee)
theorem power_spec (k : Nat) (hk : 300 ≤ k) {a e : List Int} {m E : Int} (ha : Rn a m) (he : Num e E) (N : Nat) (hN : E.toNat = N) : ∃ c, postilionref04_Power.f k a e = some c ∧ Rn c (m ^ N) := by
  have hb := he.bound
  obtain ⟨c, ec, nc⟩ := power_loop 256 k (by omega) ha he (by decide) (z := [1, 0, 0, 0]) ⟨1, one_num, by
    rw [Int.ediv_eq_zero_of_lt hb.1 (by rw [show (2 : Int) ^ 256 = 115792089237316195423570985008687907853269984665640564039457584007913129639936 by decide]; exact hb.2), show Int.toNat 0 = 0 from rfl, Int.pow_zero]⟩
  refine ⟨c, ?_, by rwa [hN] at nc⟩
  unfold postilionref04_Power.f
  exact sbd (x := postilionref04_Small.f 1) rfl (sbd ec rfl)
theorem inverse_spec (k : Nat) (hk : 300 ≤ k) {a : List Int} {m : Int} (ha : Rn a m) : ∃ c, postilionref04_Inverse.f k a = some c ∧ Rn c (m ^ P2) := by
  obtain ⟨c, ec, nc⟩ := power_spec k hk ha (e := [18446744073709551595, 18446744073709551615, 18446744073709551615, 9223372036854775807]) (E := 57896044618658097711785492504343953926634992332820282019728792003956564819947)
    (Num.mk' (by decide) (by decide) (by decide) (by decide) (by decide)) P2 (by decide)
  refine ⟨c, ?_, nc⟩
  unfold postilionref04_Inverse.f
  exact sbd (x := postilionref04_p.f) rfl (sbd ec rfl)
theorem ri_num : Num [14190309331451158704, 3405592160176694392, 3120150775007532967, 3135389899092516619] RI := Num.mk' (by decide) (by decide) (by decide) (by decide) (by decide)
theorem canonical_law (k : Nat) (hk : 50 ≤ k) {a : List Int} (ha : By a 32) : postilionref04_Canonical.f k a = some (decide (B a < p)) := by
  obtain ⟨c, ec, hc⟩ := from_spec k hk ha
  unfold postilionref04_Canonical.f
  exact sbd ec (sbd (x := postilionref04_p.f) rfl (sbd (below_spec k (by omega) hc p_num) rfl))
theorem bytes_rn (k : Nat) (hk : 50 ≤ k) {a : List Int} {m : Int} (h : Rn a m) : postilionref04_Bytes.f k a = some (toB 32 (m % p)) := by
  obtain ⟨n, hn, en⟩ := h
  rw [bytes_law k hk hn, en]
theorem add_law (k : Nat) (hk : 50 ≤ k) {a b : List Int} (ha : By a 32) (hb : By b 32) : postilionref04_Add.f k a b = some (toB 32 ((B a + B b) % p)) := by
  obtain ⟨c, ec, hc⟩ := from_spec k hk ha
  obtain ⟨d, ed, hd⟩ := from_spec k hk hb
  obtain ⟨e, ee, he⟩ := plus_spec k (by omega) hc.rn hd.rn
  unfold postilionref04_Add.f
  exact sbd ec (sbd ed (sbd ee (sbd (bytes_rn k hk he) rfl)))
theorem sub_law (k : Nat) (hk : 50 ≤ k) {a b : List Int} (ha : By a 32) (hb : By b 32) : postilionref04_Sub.f k a b = some (toB 32 ((B a - B b) % p)) := by
  obtain ⟨c, ec, hc⟩ := from_spec k hk ha
  obtain ⟨d, ed, hd⟩ := from_spec k hk hb
  obtain ⟨e, ee, he⟩ := minus_spec k (by omega) hc.rn hd.rn
  unfold postilionref04_Sub.f
  exact sbd ec (sbd ed (sbd ee (sbd (bytes_rn k hk he) rfl)))
end Go.Proofs.Ytigbkodgnikigaa.ref

