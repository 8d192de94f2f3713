/-
  The plain laws of the reference of layer 5, and that the law ScalarAll answers true.
  Conditions: none.
-/
import Derived.Test.YtpnkcajlgaokiaaDoorPl
set_option linter.unusedVariables false
set_option linter.unusedVariables false
namespace Go.Proofs.YtpnkcajlgaokiaaDoor.ref
open Go Go.Gx Go.Proofs.YtpnkcajlgaokiaaDoor
theorem plus_step (k : Nat) {a b y y' : List Int} {c i i' x z r q : Int} (hi : 0 ≤ i) (hi4 : i < 4) (ex : a.getD i.toNat 0 = x) (ez : b.getD i.toNat 0 = z) (hy : 0 ≤ x) (hb : 0 ≤ z ∧ z < 18446744073709551616) (hc : 0 ≤ c ∧ c ≤ 1)
    (er : (x + z + c) % 18446744073709551616 = r) (eq : (x + z + c) / 18446744073709551616 = q) (es : y.set i.toNat r = y') (ei : i + 1 = i') :
    postilionref05_plus.p1 (k + 1) a b y c i = postilionref05_plus.p1 k a b y' q i' := by
  subst ex ez er eq es ei
  rw [postilionref05_plus.p1, decide_eq_true hi4]
  simp only [br, lt]
  rw [chk_pos ⟨hi, hi4⟩, chk_pos ⟨hy, hb.1, hc.1, hc.2⟩, wrap_i64_of (by omega) (by omega)]
theorem sum_spec (k : Nat) (hk : 5 ≤ k) {a b : List Int} {m n : Int} (ha : Num a m) (hb : Num b n) (hmn : m + n < 115792089237316195423570985008687907853269984665640564039457584007913129639936) :
    ∃ c, postilionref05_plus.p1 k a b (List.replicate 4 0) 0 0 = some c ∧ Num c (m + n) := by
  obtain ⟨k, rfl⟩ := Nat.exists_eq_add_of_le' hk
  obtain ⟨x0, x1, x2, x3, rfl, a0, a1, a2, a3, e⟩ := ha.cases
  obtain ⟨y0, y1, y2, y3, rfl, b0, b1, b2, b3, e'⟩ := hb.cases
  obtain ⟨r0, c1, q0, q0', g0, l0, u0⟩ := dm (x0 + y0 + 0)
  have h0 : 0 ≤ c1 ∧ c1 ≤ 1 := by omega
  obtain ⟨r1, c2, q1, q1', g1, l1, u1⟩ := dm (x1 + y1 + c1)
  have h1 : 0 ≤ c2 ∧ c2 ≤ 1 := by omega
  obtain ⟨r2, c3, q2, q2', g2, l2, u2⟩ := dm (x2 + y2 + c2)
  have h2 : 0 ≤ c3 ∧ c3 ≤ 1 := by omega
  obtain ⟨r3, c4, q3, q3', g3, l3, u3⟩ := dm (x3 + y3 + c3)
  have s0 := plus_step (k + 4) (a := [x0, x1, x2, x3]) (b := [y0, y1, y2, y3]) (y := [0, 0, 0, 0]) (i := 0) (by decide) (by decide) rfl rfl a0.1 b0 (show (0 : Int) ≤ 0 ∧ (0 : Int) ≤ 1 by decide) q0 q0' rfl rfl
  have s1 := plus_step (k + 3) (a := [x0, x1, x2, x3]) (b := [y0, y1, y2, y3]) (y := [r0, 0, 0, 0]) (i := 1) (by decide) (by decide) rfl rfl a1.1 b1 h0 q1 q1' rfl rfl
  have s2 := plus_step (k + 2) (a := [x0, x1, x2, x3]) (b := [y0, y1, y2, y3]) (y := [r0, r1, 0, 0]) (i := 2) (by decide) (by decide) rfl rfl a2.1 b2 h1 q2 q2' rfl rfl
  have s3 := plus_step (k + 1) (a := [x0, x1, x2, x3]) (b := [y0, y1, y2, y3]) (y := [r0, r1, r2, 0]) (i := 3) (by decide) (by decide) rfl rfl a3.1 b3 h2 q3 q3' rfl rfl
  exact ⟨[r0, r1, r2, r3], s0.trans (s1.trans (s2.trans (s3.trans rfl))), Num.mk' ⟨l0, u0⟩ ⟨l1, u1⟩ ⟨l2, u2⟩ ⟨l3, u3⟩ (by omega)⟩
theorem less_step (k : Nat) {a b y y' : List Int} {c i i' x z r q : Int} (hi : 0 ≤ i) (hi4 : i < 4) (ex : a.getD i.toNat 0 = x) (ez : b.getD i.toNat 0 = z) (hy : 0 ≤ x) (hb : 0 ≤ z ∧ z < 18446744073709551616) (hc : 0 ≤ c ∧ c ≤ 1)
    (er : (x - z - c) % 18446744073709551616 = r) (eq : (if x < z + c then 1 else 0 : Int) = q) (es : y.set i.toNat r = y') (ei : i + 1 = i') :
    postilionref05_less.p1 (k + 1) a b y c i = postilionref05_less.p1 k a b y' q i' := by
  subst ex ez er eq es ei
  rw [postilionref05_less.p1, decide_eq_true hi4]
  simp only [br, lt]
  rw [chk_pos ⟨hi, hi4⟩, chk_pos ⟨hy, hb, hc.1, hc.2⟩, wrap_i64_of (by omega) (by omega)]
theorem dif_spec (k : Nat) (hk : 5 ≤ k) {a b : List Int} {m n : Int} (ha : Num a m) (hb : Num b n) (hmn : n ≤ m) :
    ∃ c, postilionref05_less.f k a b = some c ∧ Num c (m - n) := by
  obtain ⟨k, rfl⟩ := Nat.exists_eq_add_of_le' hk
  obtain ⟨x0, x1, x2, x3, rfl, a0, a1, a2, a3, e⟩ := ha.cases
  obtain ⟨y0, y1, y2, y3, rfl, b0, b1, b2, b3, e'⟩ := hb.cases
  unfold postilionref05_less.f
  obtain ⟨r0, c1, q0, q0', g0, l0, h0⟩ := db x0 y0 0 a0 b0 (by decide)
  obtain ⟨r1, c2, q1, q1', g1, l1, h1⟩ := db x1 y1 c1 a1 b1 h0
  obtain ⟨r2, c3, q2, q2', g2, l2, h2⟩ := db x2 y2 c2 a2 b2 h1
  obtain ⟨r3, c4, q3, q3', g3, l3, h3⟩ := db x3 y3 c3 a3 b3 h2
  have s0 := less_step (k + 4) (a := [x0, x1, x2, x3]) (b := [y0, y1, y2, y3]) (y := [0, 0, 0, 0]) (i := 0) (by decide) (by decide) rfl rfl a0.1 b0 (show (0 : Int) ≤ 0 ∧ (0 : Int) ≤ 1 by decide) q0 q0' rfl rfl
  have s1 := less_step (k + 3) (a := [x0, x1, x2, x3]) (b := [y0, y1, y2, y3]) (y := [r0, 0, 0, 0]) (i := 1) (by decide) (by decide) rfl rfl a1.1 b1 h0 q1 q1' rfl rfl
  have s2 := less_step (k + 2) (a := [x0, x1, x2, x3]) (b := [y0, y1, y2, y3]) (y := [r0, r1, 0, 0]) (i := 2) (by decide) (by decide) rfl rfl a2.1 b2 h1 q2 q2' rfl rfl
  have s3 := less_step (k + 1) (a := [x0, x1, x2, x3]) (b := [y0, y1, y2, y3]) (y := [r0, r1, r2, 0]) (i := 3) (by decide) (by decide) rfl rfl a3.1 b3 h2 q3 q3' rfl rfl
  exact ⟨[r0, r1, r2, r3], sbd (s0.trans (s1.trans (s2.trans (s3.trans rfl)))) rfl, Num.mk' l0 l1 l2 l3 (by omega)⟩
theorem below_eq (k : Nat) {a b : List Int} {i i' x : Int} (hi : 0 ≤ i) (hi4 : i < 4) (ex : a.getD i.toNat 0 = x) (ez : b.getD i.toNat 0 = x) (ei : i - 1 = i') :
    postilionref05_below.p1 (k + 1) a b i = postilionref05_below.p1 k a b i' := by
  subst ex ei
  rw [postilionref05_below.p1, decide_eq_true (show i ≥ 0 by omega)]
  simp only [br, lt]
  rw [chk_pos ⟨hi, hi4⟩, ez, bne_self_eq_false]
  show postilionref05_below.p1 k a b (IntKind.i64.wrap (i - 1)) = _
  rw [wrap_i64_of (by omega) (by omega)]
theorem below_ne (k : Nat) {a b : List Int} {i x z : Int} (hi : 0 ≤ i) (hi4 : i < 4) (ex : a.getD i.toNat 0 = x) (ez : b.getD i.toNat 0 = z) (hn : x ≠ z) :
    postilionref05_below.p1 (k + 1) a b i = some (.inr (decide (x < z))) := by
  subst ex ez
  rw [postilionref05_below.p1, decide_eq_true (show i ≥ 0 by omega)]
  simp only [br, lt]
  rw [chk_pos ⟨hi, hi4⟩, show (a.getD i.toNat 0 != b.getD i.toNat 0) = true from bne_iff_ne.mpr hn]
theorem below_spec (k : Nat) (hk : 5 ≤ k) {a b : List Int} {m n : Int} (ha : Num a m) (hb : Num b n) : postilionref05_below.f k a b = some (decide (m < n)) := by
  obtain ⟨k, rfl⟩ := Nat.exists_eq_add_of_le' hk
  obtain ⟨x0, x1, x2, x3, rfl, a0, a1, a2, a3, e⟩ := ha.cases
  obtain ⟨y0, y1, y2, y3, rfl, b0, b1, b2, b3, e'⟩ := hb.cases
  unfold postilionref05_below.f
  have fin : ∀ (v : Bool), v = decide (m < n) → postilionref05_below.p1 (k + 5) [x0, x1, x2, x3] [y0, y1, y2, y3] 3 = some (.inr v) → bd (postilionref05_below.p1 (k + 5) [x0, x1, x2, x3] [y0, y1, y2, y3] 3) (fun r8 => match r8 with
    | (.inl _) => some (false)
    | (.inr m9) => some (m9)) = some (decide (m < n)) := fun v hv h => sbd h (by rw [hv])
  by_cases h3 : x3 = y3
  · have s3 := below_eq (k + 4) (a := [x0, x1, x2, x3]) (b := [y0, y1, y2, y3]) (i := 3) (by decide) (by decide) rfl h3.symm rfl
    by_cases h2 : x2 = y2
    · have s2 := below_eq (k + 3) (a := [x0, x1, x2, x3]) (b := [y0, y1, y2, y3]) (i := 2) (by decide) (by decide) rfl h2.symm rfl
      by_cases h1 : x1 = y1
      · have s1 := below_eq (k + 2) (a := [x0, x1, x2, x3]) (b := [y0, y1, y2, y3]) (i := 1) (by decide) (by decide) rfl h1.symm rfl
        by_cases h0 : x0 = y0
        · have s0 := below_eq (k + 1) (a := [x0, x1, x2, x3]) (b := [y0, y1, y2, y3]) (i := 0) (by decide) (by decide) rfl h0.symm rfl
          refine sbd (s3.trans (s2.trans (s1.trans (s0.trans (show _ = some (.inl ()) from rfl))))) ?_
          rw [decide_eq_false (show ¬ m < n by omega)]
        · refine fin _ ?_ (s3.trans (s2.trans (s1.trans (below_ne (k + 1) (by decide) (by decide) rfl rfl h0))))
          exact decide_eq_decide.mpr (show x0 < y0 ↔ _ by omega)
      · refine fin _ ?_ (s3.trans (s2.trans (below_ne (k + 2) (by decide) (by decide) rfl rfl h1)))
        exact decide_eq_decide.mpr (show x1 < y1 ↔ _ by omega)
    · refine fin _ ?_ (s3.trans (below_ne (k + 3) (by decide) (by decide) rfl rfl h2))
      exact decide_eq_decide.mpr (show x2 < y2 ↔ _ by omega)
  · refine fin _ ?_ (below_ne (k + 4) (by decide) (by decide) rfl rfl h3)
    exact decide_eq_decide.mpr (show x3 < y3 ↔ _ by omega)
theorem plus_spec (k : Nat) (hk : 5 ≤ k) {a b : List Int} {m n : Int} (ha : Num a m) (hb : Num b n) (hm : m < L) (hn : n < L) :
    ∃ c, postilionref05_plus.f k a b = some c ∧ Num c ((m + n) % L) := by
  have hm' := ha.bound
  have hn' := hb.bound
  unfold L at hm hn
  obtain ⟨s, es, ns⟩ := sum_spec k hk ha hb (by omega)
  have eb := below_spec k hk ns order_num
  unfold postilionref05_plus.f
  by_cases h : m + n < 7237005577332262213973186563042994240857116359379907606001950938285454250989
  · rw [decide_eq_true h] at eb
    refine ⟨s, sbd es (sbd (a := _) rfl (sbd eb (sbd (a := s) ?_ rfl))), ?_⟩
    · exact sbf rfl rfl
    · rwa [show (m + n) % L = m + n from Int.emod_eq_of_lt (by omega) (by unfold L; omega)]
  · rw [decide_eq_false h] at eb
    obtain ⟨c, ec, nc⟩ := dif_spec k hk ns order_num (by omega)
    refine ⟨c, sbd es (sbd (a := _) rfl (sbd eb (sbd (a := c) ?_ rfl))), ?_⟩
    · exact sbt rfl (sbd (a := _) rfl (sbd ec rfl))
    · rwa [show (m + n) % L = m + n - 7237005577332262213973186563042994240857116359379907606001950938285454250989 from emod_of (q := 1) (by unfold L; omega) (by omega) (by unfold L; omega)]
theorem lt_rwb {α : Type} {x y : Bool} {f : Bool → Option α} {z : Option α} (h : x = y) (hf : f y = z) : lt x f = z := by subst h; exact hf
theorem bit_low (x v : Int) (i j : Nat) (h : i < j) : (x + 2 ^ j * v) / 2 ^ i % 2 = x / 2 ^ i % 2 := by
  obtain ⟨d, rfl⟩ : ∃ d, j = i + (d + 1) := ⟨j - i - 1, by omega⟩
  have hp : (0 : Int) < 2 ^ i := Int.pow_pos (by decide)
  rw [Int.pow_add, Int.mul_assoc, Int.add_mul_ediv_left _ _ (by omega), Int.pow_succ, Int.mul_assoc, Int.mul_comm (2 ^ d), Int.mul_assoc, Int.add_mul_emod_self_left]
theorem bit_high (x v : Int) (i j : Nat) (h : j ≤ i) (h0 : 0 ≤ x) (h1 : x < 2 ^ j) : (x + 2 ^ j * v) / 2 ^ i = v / 2 ^ (i - j) := by
  obtain ⟨d, rfl⟩ : ∃ d, i = j + d := ⟨i - j, by omega⟩
  have hp : (0 : Int) < 2 ^ j := Int.pow_pos (by decide)
  rw [Int.pow_add, Nat.add_sub_cancel_left, ← Int.ediv_ediv_of_nonneg (Int.le_of_lt hp), Int.add_mul_ediv_left _ _ (by omega), Int.ediv_eq_zero_of_lt h0 h1, Int.zero_add]
theorem bitB {a : List Int} (ha : ∀ x ∈ a, IntKind.u8.has x) (i : Nat) : a.getD (i / 8) 0 / 2 ^ (i % 8) % 2 = B a / 2 ^ i % 2 := by
  induction a generalizing i with
  | nil => simp [B]
  | cons x l ih =>
    have h := u8_b (ha x (List.mem_cons_self ..))
    rw [B, show (256 : Int) = 2 ^ 8 from rfl]
    by_cases hi : i < 8
    · rw [bit_low _ _ _ _ hi, Nat.div_eq_of_lt hi, Nat.mod_eq_of_lt hi]; rfl
    · rw [bit_high _ _ _ _ (by omega) h.1 (by simp; omega), ← ih (fun y hy => ha y (List.mem_cons_of_mem _ hy)) (i - 8), show i / 8 = (i - 8) / 8 + 1 by omega, List.getD_cons_succ, show i % 8 = (i - 8) % 8 by omega]
theorem bitV {a : List Int} (ha : W a) (i : Nat) : a.getD (i / 64) 0 / 2 ^ (i % 64) % 2 = V a / 2 ^ i % 2 := by
  induction a generalizing i with
  | nil => simp [V]
  | cons x l ih =>
    have h := W_cons.mp ha
    rw [V, show (18446744073709551616 : Int) = 2 ^ 64 from rfl]
    by_cases hi : i < 64
    · rw [bit_low _ _ _ _ hi, Nat.div_eq_of_lt hi, Nat.mod_eq_of_lt hi]; rfl
    · rw [bit_high _ _ _ _ (by omega) h.1.1 h.1.2, ← ih h.2 (i - 64), show i / 64 = (i - 64) / 64 + 1 by omega, List.getD_cons_succ, show i % 64 = (i - 64) % 64 by omega]
theorem bit_step (n : Int) (i : Nat) : n / 2 ^ i = 2 * (n / 2 ^ (i + 1)) + n / 2 ^ i % 2 := by
  rw [Int.pow_succ, ← Int.ediv_ediv_of_nonneg (Int.le_of_lt (Int.pow_pos (by decide)))]; omega
theorem one_num : Num [1, 0, 0, 0] 1 := Num.mk' (by decide) (by decide) (by decide) (by decide) (by decide)
theorem zero_num : Num (List.replicate 4 0) 0 := Num.mk' (by decide) (by decide) (by decide) (by decide) (by decide)
theorem and1_u8 (x : Int) (h : 0 ≤ x ∧ x < 256) : bits .and .u8 x 1 = x % 2 := bits_mask .u8 8 (by decide) wraps_u8 1 (by decide) x h.1 h.2
theorem and1_u64 (x : Int) (h : 0 ≤ x ∧ x < 18446744073709551616) : bits .and .u64 x 1 = x % 2 := and_u64 1 (by decide) x h.1 h.2
theorem L_mod (n : Int) : 0 ≤ n % L ∧ n % L < L := ⟨Int.emod_nonneg _ (by decide), Int.emod_lt_of_pos _ L_pos⟩
theorem div_le {x : Int} (h : 0 ≤ x) (i : Nat) : 0 ≤ x / 2 ^ i ∧ x / 2 ^ i ≤ x :=
  ⟨Int.ediv_nonneg h (Int.le_of_lt (Int.pow_pos (by decide))), Int.ediv_le_self _ h⟩
theorem mod_step (k : Nat) (hk : 5 ≤ k) {a z : List Int} (hl : a.length ≤ 1000) (ha : ∀ x ∈ a, IntKind.u8.has x) (i : Nat) (hi : i < 8 * a.length) (hz : Num z (B a / 2 ^ (i + 1) % L)) :
    ∃ c, postilionref05_mod.p2 k a (i : Int) z = some c ∧ Num c (B a / 2 ^ i % L) := by
  have hm := L_mod (B a / 2 ^ (i + 1))
  obtain ⟨d, ed, nd⟩ := plus_spec k hk hz hz hm.2 hm.2
  rw [Int.emod_add_emod, Int.add_emod_emod] at nd
  have hb := getD_u8 a ha (i / 8)
  have hdv := div_le hb.1 (i % 8)
  have hbit := bitB ha i
  have hs := bit_step (B a) i
  unfold postilionref05_mod.p2
  have e3 : ∃ c, postilionref05_mod.p3 k (a.getD (i / 8) 0 / 2 ^ (i % 8) % 2 == 1) d = some c ∧ Num c (B a / 2 ^ i % L) := by
    rw [hbit]
    unfold postilionref05_mod.p3
    by_cases h : B a / 2 ^ i % 2 = 1
    · have hm2 := L_mod (B a / 2 ^ (i + 1) + B a / 2 ^ (i + 1))
      obtain ⟨c, ec, nc⟩ := plus_spec k hk nd one_num hm2.2 (by decide)
      refine ⟨c, sbt (beq_iff_eq.mpr h) (sbd ec rfl), ?_⟩
      rw [Int.emod_add_emod] at nc
      rwa [show B a / 2 ^ i = B a / 2 ^ (i + 1) + B a / 2 ^ (i + 1) + 1 by omega]
    · refine ⟨d, sbf (beq_eq_false_iff_ne.mpr h) rfl, ?_⟩
      rwa [show B a / 2 ^ i = B a / 2 ^ (i + 1) + B a / 2 ^ (i + 1) by omega]
  obtain ⟨c, ec, nc⟩ := e3
  refine ⟨c, sbd ed ?_, nc⟩
  rw [show Int.tdiv (i : Int) 8 = ((i / 8 : Nat) : Int) from rfl, show Int.tmod (i : Int) 8 = ((i % 8 : Nat) : Int) from rfl]
  rw [wrap_i64_of (x := ((i / 8 : Nat) : Int)) (by omega) (by omega), wrap_u64_of (x := ((i % 8 : Nat) : Int)) (by omega) (by omega)]
  rw [chk_pos ⟨by omega, by omega⟩, chk_pos (by omega)]
  rw [show (((i / 8 : Nat) : Int)).toNat = i / 8 by omega, show (((i % 8 : Nat) : Int)).toNat = i % 8 by omega]
  rw [show min (i % 8) IntKind.u8.bits = i % 8 from Nat.min_eq_left (show i % 8 ≤ 8 by omega), fd _ _ (Int.le_of_lt (Int.pow_pos (by decide))), and1_u8 _ (by omega)]
  exact lt_rwb rfl (sbd ec rfl)
theorem mod_loop (n k : Nat) (hk : n + 9 ≤ k) {a z : List Int} (hl : a.length ≤ 1000) (ha : ∀ x ∈ a, IntKind.u8.has x) (hn : n ≤ 8 * a.length) (hz : Num z (B a / 2 ^ n % L)) :
    ∃ c, postilionref05_mod.p1 k a z ((n : Int) - 1) = some c ∧ Num c (B a % L) := by
  induction n generalizing k z with
  | zero =>
    obtain ⟨k, rfl⟩ := Nat.exists_eq_add_of_le' (show 1 ≤ k by omega)
    rw [Int.pow_zero, Int.ediv_one] at hz
    exact ⟨z, rfl, hz⟩
  | succ n ih =>
    obtain ⟨k, rfl⟩ := Nat.exists_eq_add_of_le' (show 1 ≤ k by omega)
    obtain ⟨c, ec, nc⟩ := mod_step k (by omega) hl ha n (by omega) hz
    obtain ⟨d, ed, nd⟩ := ih k (by omega) (by omega) nc
    refine ⟨d, ?_, nd⟩
    rw [postilionref05_mod.p1, show ((n + 1 : Nat) : Int) - 1 = (n : Int) by omega, decide_eq_true (show (n : Int) ≥ 0 by omega)]
    exact sbd ec (lt_rw (wrap_i64_of (by omega) (by omega)) ed)
theorem mod_spec (n k : Nat) (hk : 8 * n + 9 ≤ k) {a : List Int} (h : By a n) (hn' : n ≤ 100) :
    ∃ c, postilionref05_mod.f k a = some c ∧ Num c (B a % L) := by
  unfold postilionref05_mod.f
  have hb := B_bound a h.2
  have h0 : B a / 2 ^ (8 * n) = 0 := Int.ediv_eq_zero_of_lt hb.1 (by rw [Int.pow_mul]; have := hb.2; rw [h.1] at this; exact this)
  obtain ⟨c, ec, nc⟩ := mod_loop (8 * n) k hk (a := a) (z := List.replicate 4 0) (by have := h.1; omega) h.2 (by have := h.1; omega) (by rw [h0]; exact zero_num)
  refine ⟨c, lt_rw (y := ((8 * n : Nat) : Int) - 1) ?_ (sbd ec rfl), nc⟩
  rw [h.1, wrap_i64_of (x := 8 * (n : Int)) (by omega) (by omega), wrap_i64_of (by omega) (by omega)]; omega
theorem bytes_loop (d k : Nat) (hk : d + 1 ≤ k) (a : List Int) (hd : d ≤ 32) :
    postilionref05_bytesOf.p1 k a (fil (wb a) 32 (32 - d)) ((32 - d : Nat) : Int) = some ((List.range 32).map (wb a)) := by
  induction d generalizing k with
  | zero =>
    obtain ⟨k, rfl⟩ := Nat.exists_eq_add_of_le' (show 1 ≤ k by omega)
    rw [Nat.sub_zero, fil_all]; rfl
  | succ d ih =>
    obtain ⟨k, rfl⟩ := Nat.exists_eq_add_of_le' (show 1 ≤ k by omega)
    obtain ⟨i, ei⟩ : ∃ i, i = 32 - (d + 1) := ⟨_, rfl⟩
    have hi : i < 32 := by omega
    rw [← ei]
    rw [postilionref05_bytesOf.p1, decide_eq_true (show (i : Int) < 32 by omega)]
    simp only [br, lt]
    rw [show Int.tdiv (i : Int) 8 = ((i / 8 : Nat) : Int) from rfl, show Int.tmod (i : Int) 8 = ((i % 8 : Nat) : Int) from rfl]
    rw [wrap_i64_of (x := ((i / 8 : Nat) : Int)) (by omega) (by omega), wrap_i64_of (x := 8 * ((i % 8 : Nat) : Int)) (by omega) (by omega), wrap_u64_of (x := 8 * ((i % 8 : Nat) : Int)) (by omega) (by omega), wrap_i64_of (x := (i : Int) + 1) (by omega) (by omega)]
    rw [chk_pos ⟨by omega, by omega⟩, chk_pos (by omega), chk_pos ⟨by omega, by omega⟩]
    rw [show (((i / 8 : Nat) : Int)).toNat = i / 8 by omega, show (8 * ((i % 8 : Nat) : Int)).toNat = 8 * (i % 8) by omega, show (i : Int).toNat = i by omega]
    rw [show min (8 * (i % 8)) IntKind.u64.bits = 8 * (i % 8) from Nat.min_eq_left (show 8 * (i % 8) ≤ 64 by omega), fd _ _ (Int.le_of_lt (Int.pow_pos (by decide))), IntKind.wrap_u8]
    rw [show a.getD (i / 8) 0 / 2 ^ (8 * (i % 8)) % 256 = wb a i from rfl, fil_set _ _ _ hi, show (i : Int) + 1 = ((i + 1 : Nat) : Int) by omega, show i + 1 = 32 - d by omega]
    exact ih k (by omega) (by omega)
theorem bytes_spec (k : Nat) (hk : 33 ≤ k) {a : List Int} {n : Int} (h : Num a n) : postilionref05_bytesOf.f k a = some (toB 32 n) := by
  unfold postilionref05_bytesOf.f
  have := bytes_loop 32 k hk a (by decide)
  rw [Nat.sub_self, fil_zero] at this
  refine sbd this ?_
  have e : (List.range 32).map (wb a) = toB 32 n := eq_toB (wb_u8 a 32) (by simp) (by have := wb_bytes a h.w; rw [h.len, h.v] at this; exact this)
  rw [e]
end Go.Proofs.YtpnkcajlgaokiaaDoor.ref

set_option linter.unusedVariables false
namespace Go.Proofs.YtpnkcajlgaokiaaDoor.ref
open Go Go.Gx Go.Proofs.YtpnkcajlgaokiaaDoor
theorem mul_step (k : Nat) (hk : 5 ≤ k) {x y z : List Int} {m n : Int} (hx : Num x m) (hy : Num y n) (hn : n < L) (i : Nat) (hi : i < 256) (hz : Num z (m / 2 ^ (i + 1) * n % L)) :
    ∃ c, postilionref05_MulAdd.p2 k (i : Int) x y z = some c ∧ Num c (m / 2 ^ i * n % L) := by
  have hm := L_mod (m / 2 ^ (i + 1) * n)
  obtain ⟨d, ed, nd⟩ := plus_spec k hk hz hz hm.2 hm.2
  rw [Int.emod_add_emod, Int.add_emod_emod] at nd
  have hb : 0 ≤ x.getD (i / 64) 0 ∧ x.getD (i / 64) 0 < 18446744073709551616 := by
    have hlt : i / 64 < x.length := by rw [hx.len]; omega
    rw [List.getD_eq_getElem?_getD, List.getElem?_eq_getElem hlt]
    exact hx.w _ (List.getElem_mem hlt)
  have hdv := div_le hb.1 (i % 64)
  have hbit := bitV hx.w i
  rw [hx.v] at hbit
  have hs := bit_step m i
  unfold postilionref05_MulAdd.p2
  have e3 : ∃ c, postilionref05_MulAdd.p3 k (x.getD (i / 64) 0 / 2 ^ (i % 64) % 2 == 1) y d = some c ∧ Num c (m / 2 ^ i * n % L) := by
    rw [hbit]
    unfold postilionref05_MulAdd.p3
    by_cases h : m / 2 ^ i % 2 = 1
    · have hm2 := L_mod (m / 2 ^ (i + 1) * n + m / 2 ^ (i + 1) * n)
      obtain ⟨c, ec, nc⟩ := plus_spec k hk nd hy hm2.2 hn
      refine ⟨c, sbt (beq_iff_eq.mpr h) (sbd ec rfl), ?_⟩
      rw [Int.emod_add_emod] at nc
      rwa [show m / 2 ^ i * n = m / 2 ^ (i + 1) * n + m / 2 ^ (i + 1) * n + n by rw [hs, h]; grind]
    · refine ⟨d, sbf (beq_eq_false_iff_ne.mpr h) rfl, ?_⟩
      rwa [show m / 2 ^ i * n = m / 2 ^ (i + 1) * n + m / 2 ^ (i + 1) * n by rw [hs, show m / 2 ^ i % 2 = 0 by omega]; grind]
  obtain ⟨c, ec, nc⟩ := e3
  refine ⟨c, sbd ed ?_, nc⟩
  rw [show Int.tdiv (i : Int) 64 = ((i / 64 : Nat) : Int) from rfl, show Int.tmod (i : Int) 64 = ((i % 64 : Nat) : Int) from rfl]
  rw [wrap_i64_of (x := ((i / 64 : Nat) : Int)) (by omega) (by omega), wrap_u64_of (x := ((i % 64 : Nat) : Int)) (by omega) (by omega)]
  rw [chk_pos ⟨by omega, by omega⟩, chk_pos (by omega)]
  rw [show (((i / 64 : Nat) : Int)).toNat = i / 64 by omega, show (((i % 64 : Nat) : Int)).toNat = i % 64 by omega]
  rw [show min (i % 64) IntKind.u64.bits = i % 64 from Nat.min_eq_left (show i % 64 ≤ 64 by omega), fd _ _ (Int.le_of_lt (Int.pow_pos (by decide))), and1_u64 _ (by omega)]
  exact lt_rwb rfl (sbd ec rfl)
theorem mul_loop (d k : Nat) (hk : d + 9 ≤ k) {x y z : List Int} {m n : Int} (hx : Num x m) (hy : Num y n) (hn : n < L) (hd : d ≤ 256) (hz : Num z (m / 2 ^ d * n % L)) :
    ∃ c, postilionref05_MulAdd.p1 k x y z ((d : Int) - 1) = some c ∧ Num c (m * n % L) := by
  induction d generalizing k z with
  | zero =>
    obtain ⟨k, rfl⟩ := Nat.exists_eq_add_of_le' (show 1 ≤ k by omega)
    rw [Int.pow_zero, Int.ediv_one] at hz
    exact ⟨z, rfl, hz⟩
  | succ d ih =>
    obtain ⟨k, rfl⟩ := Nat.exists_eq_add_of_le' (show 1 ≤ k by omega)
    obtain ⟨c, ec, nc⟩ := mul_step k (by omega) hx hy hn d (by omega) hz
    obtain ⟨e, ee, ne⟩ := ih k (by omega) (by omega) nc
    refine ⟨e, ?_, ne⟩
    rw [postilionref05_MulAdd.p1, show ((d + 1 : Nat) : Int) - 1 = (d : Int) by omega, decide_eq_true (show (d : Int) ≥ 0 by omega)]
    exact sbd ec (lt_rw (wrap_i64_of (by omega) (by omega)) ee)
theorem md (k : Nat) (hk : 600 ≤ k) {a : List Int} (h : By a 32) : ∃ c, postilionref05_mod.f k a = some c ∧ Num c (B a % L) := mod_spec 32 k (by omega) h (by decide)
theorem mulAdd_law (k : Nat) (hk : 600 ≤ k) {a b c : List Int} (ha : By a 32) (hb : By b 32) (hc : By c 32) : postilionref05_MulAdd.f k a b c = some (toB 32 ((B a * B b + B c) % L)) := by
  obtain ⟨x, ex, nx⟩ := md k hk ha
  obtain ⟨y, ey, ny⟩ := md k hk hb
  obtain ⟨z, ez, nz⟩ := md k hk hc
  have h0 : B a % L / 2 ^ 256 = 0 := Int.ediv_eq_zero_of_lt (L_mod _).1 (Int.lt_trans (L_mod _).2 (by decide))
  obtain ⟨p, ep, np⟩ := mul_loop 256 k (by omega) nx ny (L_mod _).2 (by decide) (z := List.replicate 4 0) (by rw [h0, Int.zero_mul]; exact zero_num)
  rw [← Int.mul_emod] at np
  obtain ⟨s, es, ns⟩ := plus_spec k (by omega) np nz (L_mod _).2 (L_mod _).2
  rw [← Int.add_emod] at ns
  exact sbd ex (sbd ey (sbd ep (sbd ez (sbd es (sbd (bytes_spec k (by omega) ns) rfl)))))
theorem add_law (k : Nat) (hk : 600 ≤ k) {a b : List Int} (ha : By a 32) (hb : By b 32) : postilionref05_Add.f k a b = some (toB 32 ((B a + B b) % L)) := by
  obtain ⟨x, ex, nx⟩ := md k hk ha
  obtain ⟨y, ey, ny⟩ := md k hk hb
  obtain ⟨s, es, ns⟩ := plus_spec k (by omega) nx ny (L_mod _).2 (L_mod _).2
  rw [← Int.add_emod] at ns
  exact sbd ex (sbd ey (sbd es (sbd (bytes_spec k (by omega) ns) rfl)))
theorem reduce_law (k : Nat) (hk : 600 ≤ k) {a : List Int} (ha : By a 64) : postilionref05_Reduce.f k a = some (toB 32 (B a % L)) := by
  obtain ⟨x, ex, nx⟩ := mod_spec 64 k (by omega) ha (by decide)
  exact sbd ex (sbd (bytes_spec k (by omega) nx) rfl)
theorem neg_law (k : Nat) (hk : 600 ≤ k) {a : List Int} (ha : By a 32) : postilionref05_Neg.f k a = some (toB 32 ((-B a) % L)) := by
  obtain ⟨x, ex, nx⟩ := md k hk ha
  have hm := L_mod (B a)
  refine sbd ex ?_
  by_cases h : B a % L = 0
  · rw [h] at nx
    refine sbt (beq_iff_eq.mpr (nx.eq zero_num)) (som ?_)
    rw [show (-B a) % L = 0 by unfold L at *; omega]; decide
  · refine sbf (beq_eq_false_iff_ne.mpr fun e => h ?_) ?_
    · rw [e] at nx; rw [← nx.v]; rfl
    · obtain ⟨c, ec, nc⟩ := dif_spec k (by omega) order_num nx (show B a % L ≤ L from Int.le_of_lt hm.2)
      rw [show 7237005577332262213973186563042994240857116359379907606001950938285454250989 - B a % L = (-B a) % L by unfold L at *; omega] at nc
      exact sbd (a := _) rfl (sbd ec (sbd (bytes_spec k (by omega) nc) rfl))
-- from
theorem from_step (k i : Nat) (hi : i < 32) {a z z' : List Int} {v : Int} (ha : a.length = 32) (hx : a.getD i 0 = v) (hv : 0 ≤ v ∧ v < 256) (q r : Nat) (hq : i / 8 = q) (hr : i % 8 = r)
    {y : Int} (hy : z.getD q 0 = y) (hy0 : 0 ≤ y) (hy1 : y < 2 ^ (8 * r)) (hz : z.set q (y + v * 2 ^ (8 * r)) = z') :
    postilionref05_from.p1 (k + 1) a 32 z (i : Int) = postilionref05_from.p1 k a 32 z' ((i + 1 : Nat) : Int) := by
  subst hz hy hx hq hr
  have hp : (0 : Int) < 2 ^ (8 * (i % 8)) := Int.pow_pos (by decide)
  have hp' : (2 : Int) ^ (8 * (i % 8)) ≤ 2 ^ 56 := by
    have : i % 8 < 8 := by omega
    generalize i % 8 = r at this
    rcases (show r = 0 ∨ r = 1 ∨ r = 2 ∨ r = 3 ∨ r = 4 ∨ r = 5 ∨ r = 6 ∨ r = 7 by omega) with h | h | h | h | h | h | h | h <;> subst h <;> decide
  have hb : 0 ≤ a.getD i 0 * 2 ^ (8 * (i % 8)) ∧ a.getD i 0 * 2 ^ (8 * (i % 8)) ≤ 255 * 2 ^ 56 := pb ⟨hv.1, by omega⟩ ⟨by omega, hp'⟩
  have hb2 : (255 * 2 ^ 56 : Int) < 18446744073709551616 := by decide
  have hb3 : (2 ^ 56 : Int) < 18446744073709551616 := by decide
  rw [postilionref05_from.p1, decide_eq_true (show (i : Int) < 32 by omega)]
  simp only [br, lt]
  rw [show Int.tdiv (i : Int) 8 = ((i / 8 : Nat) : Int) from rfl, show Int.tmod (i : Int) 8 = ((i % 8 : Nat) : Int) from rfl]
  rw [wrap_i64_of (x := ((i / 8 : Nat) : Int)) (by omega) (by omega), wrap_i64_of (x := 8 * ((i % 8 : Nat) : Int)) (by omega) (by omega), wrap_u64_of (x := 8 * ((i % 8 : Nat) : Int)) (by omega) (by omega), wrap_i64_of (x := (i : Int) + 1) (by omega) (by omega)]
  rw [chk_pos ⟨by omega, by omega⟩, chk_pos ⟨by omega, by rw [ha]; omega⟩, chk_pos (by omega)]
  rw [show (((i / 8 : Nat) : Int)).toNat = i / 8 by omega, show (8 * ((i % 8 : Nat) : Int)).toNat = 8 * (i % 8) by omega, show (i : Int).toNat = i by omega]
  rw [show min (8 * (i % 8)) IntKind.u64.bits = 8 * (i % 8) from Nat.min_eq_left (show 8 * (i % 8) ≤ 64 by omega)]
  rw [wrap_u64_of (x := a.getD i 0) hv.1 (by omega), wrap_u64_of (x := a.getD i 0 * 2 ^ (8 * (i % 8))) hb.1 (by omega)]
  rw [or_u64' (8 * (i % 8)) _ _ hb.1 (Int.mul_emod_left _ _) (by omega) hy0 hy1 (by omega)]
  rfl
theorem take_succ {a : List Int} {i : Nat} (h : i < a.length) : B (a.take (i + 1)) = B (a.take i) + a.getD i 0 * 256 ^ i := by
  have e : a.take (i + 1) = a.take i ++ [a.getD i 0] := by
    rw [List.take_add_one, List.getElem?_eq_getElem h, List.getD_eq_getElem?_getD, List.getElem?_eq_getElem h]; rfl
  rw [e, B_app, List.length_take, Nat.min_eq_left (by omega)]
  simp only [B]
  rw [Int.mul_zero, Int.add_zero, Int.mul_comm]
theorem word_fill {z : List Int} {n v : Int} (i : Nat) (hi : i < 32) (hz : Num z n) (hn : n < 256 ^ i) (hv : 0 ≤ v ∧ v < 256) :
    ∃ y z', z.getD (i / 8) 0 = y ∧ 0 ≤ y ∧ y < 2 ^ (8 * (i % 8)) ∧ z.set (i / 8) (y + v * 2 ^ (8 * (i % 8))) = z' ∧ Num z' (n + v * 256 ^ i) := by
  obtain ⟨x0, x1, x2, x3, rfl, a0, a1, a2, a3, e⟩ := hz.cases
  have hpw : (256 : Int) ^ i = 18446744073709551616 ^ (i / 8) * 2 ^ (8 * (i % 8)) := by
    rw [show (256 : Int) ^ i = 2 ^ (8 * i) by rw [Int.pow_mul]; rfl, show (18446744073709551616 : Int) = 2 ^ 64 from rfl, ← Int.pow_mul, ← Int.pow_add, show 64 * (i / 8) + 8 * (i % 8) = 8 * i by omega]
  rw [hpw] at hn ⊢
  have hp : (0 : Int) < 2 ^ (8 * (i % 8)) := Int.pow_pos (by decide)
  have hp' : (2 : Int) ^ (8 * (i % 8)) ≤ 72057594037927936 := by
    have : i % 8 < 8 := by omega
    generalize i % 8 = r at this
    rcases (show r = 0 ∨ r = 1 ∨ r = 2 ∨ r = 3 ∨ r = 4 ∨ r = 5 ∨ r = 6 ∨ r = 7 by omega) with h | h | h | h | h | h | h | h <;> subst h <;> decide
  have hb : 0 ≤ v * 2 ^ (8 * (i % 8)) ∧ v * 2 ^ (8 * (i % 8)) ≤ 255 * 72057594037927936 := pb ⟨hv.1, by omega⟩ ⟨by omega, hp'⟩
  have hq : i / 8 < 4 := by omega
  rw [show v * (18446744073709551616 ^ (i / 8) * 2 ^ (8 * (i % 8))) = 18446744073709551616 ^ (i / 8) * (v * 2 ^ (8 * (i % 8))) by rw [← Int.mul_assoc, Int.mul_comm v, Int.mul_assoc]]
  generalize v * 2 ^ (8 * (i % 8)) = t at *
  generalize (2 : Int) ^ (8 * (i % 8)) = P at *
  generalize i / 8 = q at *
  rcases (show q = 0 ∨ q = 1 ∨ q = 2 ∨ q = 3 by omega) with h | h | h | h <;> subst h
  · rw [show (18446744073709551616 : Int) ^ 0 = 1 from rfl] at *
    exact ⟨x0, [x0 + t, x1, x2, x3], rfl, a0.1, by omega, rfl, Num.mk' (by omega) a1 a2 a3 (by omega)⟩
  · rw [show (18446744073709551616 : Int) ^ 1 = 18446744073709551616 by decide] at *
    exact ⟨x1, [x0, x1 + t, x2, x3], rfl, a1.1, by omega, rfl, Num.mk' a0 (by omega) a2 a3 (by omega)⟩
  · rw [show (18446744073709551616 : Int) ^ 2 = 340282366920938463463374607431768211456 by decide] at *
    exact ⟨x2, [x0, x1, x2 + t, x3], rfl, a2.1, by omega, rfl, Num.mk' a0 a1 (by omega) a3 (by omega)⟩
  · rw [show (18446744073709551616 : Int) ^ 3 = 6277101735386680763835789423207666416102355444464034512896 by decide] at *
    exact ⟨x3, [x0, x1, x2, x3 + t], rfl, a3.1, by omega, rfl, Num.mk' a0 a1 a2 (by omega) (by omega)⟩
theorem from_loop (d k : Nat) (hk : d + 1 ≤ k) {a z : List Int} (ha : By a 32) (hd : d ≤ 32) (hz : Num z (B (a.take (32 - d)))) :
    ∃ c, postilionref05_from.p1 k a 32 z ((32 - d : Nat) : Int) = some c ∧ Num c (B a) := by
  induction d generalizing k z with
  | zero =>
    obtain ⟨k, rfl⟩ := Nat.exists_eq_add_of_le' (show 1 ≤ k by omega)
    rw [List.take_of_length_le (by rw [ha.1]; decide)] at hz
    exact ⟨z, rfl, hz⟩
  | succ d ih =>
    obtain ⟨k, rfl⟩ := Nat.exists_eq_add_of_le' (show 1 ≤ k by omega)
    obtain ⟨i, ei⟩ : ∃ i, i = 32 - (d + 1) := ⟨_, rfl⟩
    have hi : i < 32 := by omega
    rw [← ei] at hz ⊢
    have hl : (a.take i).length = i := by rw [List.length_take, ha.1]; omega
    have hb := (B_bound (a.take i) fun x hx => ha.2 x (List.mem_of_mem_take hx)).2
    rw [hl] at hb
    have hv := getD_u8 a ha.2 i
    obtain ⟨y, z', h1, h2, h3, h4, h5⟩ := word_fill i hi hz hb hv
    rw [← take_succ (by rw [ha.1]; exact hi)] at h5
    rw [show i + 1 = 32 - d by omega] at h5
    obtain ⟨c, ec, nc⟩ := ih k (by omega) (by omega) h5
    refine ⟨c, (from_step k i hi ha.1 rfl hv _ _ rfl rfl h1 h2 h3 h4).trans ?_, nc⟩
    rw [show i + 1 = 32 - d by omega]; exact ec
theorem canonical_law (k : Nat) (hk : 600 ≤ k) {a : List Int} (ha : By a 32) : postilionref05_Canonical.f k a = some (decide (B a < L)) := by
  obtain ⟨c, ec, nc⟩ := from_loop 32 k (by omega) ha (by decide) (z := List.replicate 4 0) zero_num
  have ef : postilionref05_from.f k a = some c := by
    unfold postilionref05_from.f
    refine lt_rw (y := 32) (by rw [ha.1]; rfl) ?_
    exact sbd ec rfl
  exact sbd ef (sbd (a := _) rfl (sbd (below_spec k (by omega) nc order_num) rfl))
end Go.Proofs.YtpnkcajlgaokiaaDoor.ref
namespace Go.Proofs.YtpnkcajlgaokiaaDoor.scalarAll
open Go Go.Gx Go.Proofs.YtpnkcajlgaokiaaDoor
theorem pure_law (a0 : List Int) (la0 : a0.length = 32) (w0 : ∀ x ∈ a0, IntKind.u8.has x) (a1 : List Int) (la1 : a1.length = 32) (w1 : ∀ x ∈ a1, IntKind.u8.has x) (a2 : List Int) (la2 : a2.length = 32) (w2 : ∀ x ∈ a2, IntKind.u8.has x) (a3 : List Int) (la3 : a3.length = 64) (w3 : ∀ x ∈ a3, IntKind.u8.has x) : ∃ k, postilionlaw05_ScalarAll.f k a0 a1 a2 a3 = some true := by
  refine ⟨1000, ?_⟩
  generalize hk' : 1000 = k
  have hk : 600 ≤ k := by omega
  have ha : By a0 32 := ⟨la0, w0⟩
  have hb : By a1 32 := ⟨la1, w1⟩
  have hc : By a2 32 := ⟨la2, w2⟩
  have hd : By a3 64 := ⟨la3, w3⟩
  unfold postilionlaw05_ScalarAll.f
  refine sbd (awake_law k (by omega)) (sbf rfl (sbd (a := true) ?_ rfl))
  unfold postilionlaw05_ScalarAll.p1
  refine sbd (canonical_law k (by omega) ha) (sbd (ref.canonical_law k hk ha) (sbt (beq_self_eq_true _) ?_))
  refine sbd (reduce_law k (by omega) hd) (sbd (ref.reduce_law k hk hd) (sbt (beq_self_eq_true _) ?_))
  refine sbd (add_law k (by omega) ha hb) (sbd (ref.add_law k hk ha hb) (sbt (beq_self_eq_true _) ?_))
  refine sbd (neg_law k (by omega) ha) (sbd (ref.neg_law k hk ha) (sbt (beq_self_eq_true _) ?_))
  exact sbd (mulAdd_law k (by omega) ha hb hc) (sbd (ref.mulAdd_law k hk ha hb hc) (som (beq_self_eq_true _)))
end Go.Proofs.YtpnkcajlgaokiaaDoor.scalarAll

