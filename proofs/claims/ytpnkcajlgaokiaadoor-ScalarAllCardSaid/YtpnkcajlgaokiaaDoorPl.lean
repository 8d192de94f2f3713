/-
  The plain laws of layer 5: sums, products and remainders of numbers in words and bytes, and that the three laws answer true.
  Conditions: none.
-/
import Derived.Test.YtpnkcajlgaokiaaDoorGp
set_option linter.unusedVariables false
namespace Go.Proofs.YtpnkcajlgaokiaaDoor
open Go Go.Gx
/-- four words with their number -/
structure Num (l : List Int) (n : Int) : Prop where
  len : l.length = 4
  w : W l
  v : V l = n
theorem Num.cases {l : List Int} {n : Int} (h : Num l n) : ∃ x0 x1 x2 x3, l = [x0, x1, x2, x3] ∧ (0 ≤ x0 ∧ x0 < 18446744073709551616) ∧ (0 ≤ x1 ∧ x1 < 18446744073709551616) ∧ (0 ≤ x2 ∧ x2 < 18446744073709551616) ∧ (0 ≤ x3 ∧ x3 < 18446744073709551616) ∧
    n = x0 + 18446744073709551616 * x1 + 340282366920938463463374607431768211456 * x2 + 6277101735386680763835789423207666416102355444464034512896 * x3 := by
  obtain ⟨hl, hw, hv⟩ := h
  match l, hl with
  | [x0, x1, x2, x3], _ =>
    simp only [W_cons] at hw
    refine ⟨x0, x1, x2, x3, rfl, hw.1, hw.2.1, hw.2.2.1, hw.2.2.2.1, ?_⟩
    rw [← hv]; simp only [V]; omega
theorem Num.mk' {x0 x1 x2 x3 n : Int} (h0 : 0 ≤ x0 ∧ x0 < 18446744073709551616) (h1 : 0 ≤ x1 ∧ x1 < 18446744073709551616) (h2 : 0 ≤ x2 ∧ x2 < 18446744073709551616) (h3 : 0 ≤ x3 ∧ x3 < 18446744073709551616)
    (h : n = x0 + 18446744073709551616 * x1 + 340282366920938463463374607431768211456 * x2 + 6277101735386680763835789423207666416102355444464034512896 * x3) : Num [x0, x1, x2, x3] n :=
  ⟨rfl, by simp only [W_cons]; exact ⟨h0, h1, h2, h3, W_nil⟩, by rw [h]; simp only [V]; omega⟩
theorem Num.eq {l l' : List Int} {n : Int} (h : Num l n) (h' : Num l' n) : l = l' := by
  obtain ⟨x0, x1, x2, x3, rfl, a0, a1, a2, a3, e⟩ := h.cases
  obtain ⟨y0, y1, y2, y3, rfl, b0, b1, b2, b3, e'⟩ := h'.cases
  have : x0 = y0 ∧ x1 = y1 ∧ x2 = y2 ∧ x3 = y3 := by omega
  obtain ⟨rfl, rfl, rfl, rfl⟩ := this
  rfl
theorem Num.bound {l : List Int} {n : Int} (h : Num l n) : 0 ≤ n ∧ n < 115792089237316195423570985008687907853269984665640564039457584007913129639936 := by
  obtain ⟨x0, x1, x2, x3, rfl, a0, a1, a2, a3, e⟩ := h.cases
  omega
theorem sv {α : Type} {x : Option α} {a : α} {P : α → Prop} (h : x = some a) (hp : P a) : ∃ c, x = some c ∧ P c := ⟨a, h, hp⟩
theorem sbd {α β : Type} {x : Option α} {a : α} {f : α → Option β} {y : Option β} (h : x = some a) (hf : f a = y) : bd x f = y := by rw [h]; exact hf
theorem dm (s : Int) : ∃ r q, s % 18446744073709551616 = r ∧ s / 18446744073709551616 = q ∧ s = r + 18446744073709551616 * q ∧ 0 ≤ r ∧ r < 18446744073709551616 := ⟨_, _, rfl, rfl, by omega, by omega, by omega⟩
theorem emod_of {s P r q : Int} (h : s = r + P * q) (h0 : 0 ≤ r) (h1 : r < P) : s % P = r := by
  rw [h, Int.add_mul_emod_self_left, Int.emod_eq_of_lt h0 h1]
-- add
theorem add_step (k : Nat) {b y y' : List Int} {c i i' x z r q : Int} (hi : 0 ≤ i) (hi4 : i < 4) (ex : y.getD i.toNat 0 = x) (ez : b.getD i.toNat 0 = z) (hy : 0 ≤ x) (hb : 0 ≤ z ∧ z < 18446744073709551616) (hc : 0 ≤ c ∧ c ≤ 1)
    (er : (x + z + c) % 18446744073709551616 = r) (eq : (x + z + c) / 18446744073709551616 = q) (es : y.set i.toNat r = y') (ei : i + 1 = i') :
    scalar_number_add.p1 (k + 1) b y c i = scalar_number_add.p1 k b y' q i' := by
  subst ex ez er eq es ei
  rw [scalar_number_add.p1, decide_eq_true hi4]
  simp only [br, lt]
  rw [chk_pos ⟨hi, hi4⟩, chk_pos ⟨hy, hb.1, hc.1, hc.2⟩, wrap_i64_of (by omega) (by omega)]
theorem add_spec (k : Nat) (hk : 5 ≤ k) {a b : List Int} {m n : Int} (ha : Num a m) (hb : Num b n) :
    ∃ c, scalar_number_add.f k a b = some c ∧ Num c ((m + n) % 115792089237316195423570985008687907853269984665640564039457584007913129639936) := by
  obtain ⟨k, rfl⟩ := Nat.exists_eq_add_of_le' hk
  obtain ⟨x0, x1, x2, x3, rfl, a0, a1, a2, a3, e⟩ := ha.cases
  obtain ⟨y0, y1, y2, y3, rfl, b0, b1, b2, b3, e'⟩ := hb.cases
  unfold scalar_number_add.f
  obtain ⟨r0, c1, q0, q0', g0, l0, u0⟩ := dm (x0 + y0 + 0)
  have h0 : 0 ≤ c1 ∧ c1 ≤ 1 := by omega
  obtain ⟨r1, c2, q1, q1', g1, l1, u1⟩ := dm (x1 + y1 + c1)
  have h1 : 0 ≤ c2 ∧ c2 ≤ 1 := by omega
  obtain ⟨r2, c3, q2, q2', g2, l2, u2⟩ := dm (x2 + y2 + c2)
  have h2 : 0 ≤ c3 ∧ c3 ≤ 1 := by omega
  obtain ⟨r3, c4, q3, q3', g3, l3, u3⟩ := dm (x3 + y3 + c3)
  have s0 := add_step (k + 4) (b := [y0, y1, y2, y3]) (y := [x0, x1, x2, x3]) (i := 0) (by decide) (by decide) rfl rfl a0.1 b0 (show (0 : Int) ≤ 0 ∧ (0 : Int) ≤ 1 by decide) q0 q0' rfl rfl
  have s1 := add_step (k + 3) (b := [y0, y1, y2, y3]) (y := [r0, x1, x2, x3]) (i := 1) (by decide) (by decide) rfl rfl a1.1 b1 h0 q1 q1' rfl rfl
  have s2 := add_step (k + 2) (b := [y0, y1, y2, y3]) (y := [r0, r1, x2, x3]) (i := 2) (by decide) (by decide) rfl rfl a2.1 b2 h1 q2 q2' rfl rfl
  have s3 := add_step (k + 1) (b := [y0, y1, y2, y3]) (y := [r0, r1, r2, x3]) (i := 3) (by decide) (by decide) rfl rfl a3.1 b3 h2 q3 q3' rfl rfl
  refine ⟨[r0, r1, r2, r3], sbd (s0.trans (s1.trans (s2.trans (s3.trans rfl)))) rfl, Num.mk' ⟨l0, u0⟩ ⟨l1, u1⟩ ⟨l2, u2⟩ ⟨l3, u3⟩ (emod_of (q := c4) ?_ ?_ ?_)⟩
  all_goals omega
theorem db (x z c : Int) (hx : 0 ≤ x ∧ x < 18446744073709551616) (hz : 0 ≤ z ∧ z < 18446744073709551616) (hc : 0 ≤ c ∧ c ≤ 1) :
    ∃ r q, (x - z - c) % 18446744073709551616 = r ∧ (if x < z + c then 1 else 0 : Int) = q ∧ x - z - c = r - 18446744073709551616 * q ∧ (0 ≤ r ∧ r < 18446744073709551616) ∧ (0 ≤ q ∧ q ≤ 1) := by
  refine ⟨_, _, rfl, rfl, ?_, by omega, by split <;> decide⟩
  split <;> omega
theorem sub_step (k : Nat) {b y y' : List Int} {c i i' x z r q : Int} (hi : 0 ≤ i) (hi4 : i < 4) (ex : y.getD i.toNat 0 = x) (ez : b.getD i.toNat 0 = z) (hy : 0 ≤ x) (hb : 0 ≤ z ∧ z < 18446744073709551616) (hc : 0 ≤ c ∧ c ≤ 1)
    (er : (x - z - c) % 18446744073709551616 = r) (eq : (if x < z + c then 1 else 0 : Int) = q) (es : y.set i.toNat r = y') (ei : i + 1 = i') :
    scalar_number_sub.p1 (k + 1) b y c i = scalar_number_sub.p1 k b y' q i' := by
  subst ex ez er eq es ei
  rw [scalar_number_sub.p1, decide_eq_true hi4]
  simp only [br, lt]
  rw [chk_pos ⟨hi, hi4⟩, chk_pos ⟨hy, hb, hc.1, hc.2⟩, wrap_i64_of (by omega) (by omega)]
theorem sub_spec (k : Nat) (hk : 5 ≤ k) {a b : List Int} {m n : Int} (ha : Num a m) (hb : Num b n) :
    ∃ c, scalar_number_sub.f k a b = some (c, if m < n then 1 else 0) ∧ Num c ((m - n) % 115792089237316195423570985008687907853269984665640564039457584007913129639936) := by
  obtain ⟨k, rfl⟩ := Nat.exists_eq_add_of_le' hk
  obtain ⟨x0, x1, x2, x3, rfl, a0, a1, a2, a3, e⟩ := ha.cases
  obtain ⟨y0, y1, y2, y3, rfl, b0, b1, b2, b3, e'⟩ := hb.cases
  unfold scalar_number_sub.f
  obtain ⟨r0, c1, q0, q0', g0, l0, h0⟩ := db x0 y0 0 a0 b0 (by decide)
  obtain ⟨r1, c2, q1, q1', g1, l1, h1⟩ := db x1 y1 c1 a1 b1 h0
  obtain ⟨r2, c3, q2, q2', g2, l2, h2⟩ := db x2 y2 c2 a2 b2 h1
  obtain ⟨r3, c4, q3, q3', g3, l3, h3⟩ := db x3 y3 c3 a3 b3 h2
  have s0 := sub_step (k + 4) (b := [y0, y1, y2, y3]) (y := [x0, x1, x2, x3]) (i := 0) (by decide) (by decide) rfl rfl a0.1 b0 (show (0 : Int) ≤ 0 ∧ (0 : Int) ≤ 1 by decide) q0 q0' rfl rfl
  have s1 := sub_step (k + 3) (b := [y0, y1, y2, y3]) (y := [r0, x1, x2, x3]) (i := 1) (by decide) (by decide) rfl rfl a1.1 b1 h0 q1 q1' rfl rfl
  have s2 := sub_step (k + 2) (b := [y0, y1, y2, y3]) (y := [r0, r1, x2, x3]) (i := 2) (by decide) (by decide) rfl rfl a2.1 b2 h1 q2 q2' rfl rfl
  have s3 := sub_step (k + 1) (b := [y0, y1, y2, y3]) (y := [r0, r1, r2, x3]) (i := 3) (by decide) (by decide) rfl rfl a3.1 b3 h2 q3 q3' rfl rfl
  have hq : (if m < n then 1 else 0 : Int) = c4 := by split <;> omega
  rw [hq]
  refine ⟨[r0, r1, r2, r3], sbd (s0.trans (s1.trans (s2.trans (s3.trans rfl)))) rfl, Num.mk' l0 l1 l2 l3 (emod_of (q := -c4) ?_ ?_ ?_)⟩
  all_goals omega
theorem order_num : Num [6346243789798364141, 1503914060200516822, 0, 1152921504606846976] 7237005577332262213973186563042994240857116359379907606001950938285454250989 :=
  Num.mk' (by decide) (by decide) (by decide) (by decide) (by decide)
theorem less_spec (k : Nat) (hk : 5 ≤ k) {a : List Int} {m : Int} (ha : Num a m) (hm : m < 14474011154664524427946373126085988481714232718759815212003901876570908501978) :
    ∃ c, scalar_number_less.f k a = some c ∧ Num c (m % 7237005577332262213973186563042994240857116359379907606001950938285454250989) := by
  have hb := ha.bound
  obtain ⟨c, e, hc⟩ := sub_spec k hk ha order_num
  unfold scalar_number_less.f
  by_cases h : m < 7237005577332262213973186563042994240857116359379907606001950938285454250989
  · rw [if_pos h] at e
    refine ⟨a, sbd e rfl, ?_⟩
    rwa [Int.emod_eq_of_lt (by omega) h]
  · rw [if_neg h] at e
    refine ⟨c, sbd e rfl, ?_⟩
    rw [Int.emod_eq_of_lt (by omega) (by omega)] at hc
    rwa [emod_of (q := 1) (r := m - 7237005577332262213973186563042994240857116359379907606001950938285454250989) (by omega) (by omega) (by omega)]
end Go.Proofs.YtpnkcajlgaokiaaDoor

namespace Go.Proofs.YtpnkcajlgaokiaaDoor
open Go Go.Gx
theorem pb {a b P Q : Int} (ha : 0 ≤ a ∧ a ≤ P) (hb : 0 ≤ b ∧ b ≤ Q) : 0 ≤ a * b ∧ a * b ≤ P * Q :=
  ⟨Int.mul_nonneg ha.1 hb.1, Int.mul_le_mul ha.2 hb.2 hb.1 (Int.le_trans ha.1 ha.2)⟩
theorem lt_rw {α : Type} {x y : Int} {f : Int → Option α} {z : Option α} (h : x = y) (hf : f y = z) : lt x f = z := by subst h; exact hf
theorem fd (a b : Int) (h : 0 ≤ b) : Int.fdiv a b = a / b := Int.fdiv_eq_ediv_of_nonneg a h
theorem and32 (a : Int) (h : 0 ≤ a ∧ a < 18446744073709551616) : bits .and .u64 a 4294967295 = a % 4294967296 := and_u64 32 (by decide) a h.1 h.2
theorem mul_spec {a b : Int} (ha : 0 ≤ a ∧ a < 18446744073709551616) (hb : 0 ≤ b ∧ b < 18446744073709551616) :
    ∃ hi lo, math_bits_Mul64.f a b = some (hi, lo) ∧ (0 ≤ hi ∧ hi < 18446744073709551616) ∧ (0 ≤ lo ∧ lo < 18446744073709551616) ∧ a * b = lo + 18446744073709551616 * hi := by
  obtain ⟨x1, ex1⟩ : ∃ x, x = a % 4294967296 := ⟨_, rfl⟩
  obtain ⟨x2, ex2⟩ : ∃ x, x = a / 4294967296 := ⟨_, rfl⟩
  obtain ⟨x3, ex3⟩ : ∃ x, x = b % 4294967296 := ⟨_, rfl⟩
  obtain ⟨x4, ex4⟩ : ∃ x, x = b / 4294967296 := ⟨_, rfl⟩
  have ea : a = x1 + 4294967296 * x2 := by omega
  have eb : b = x3 + 4294967296 * x4 := by omega
  have h1 : 0 ≤ x1 ∧ x1 ≤ 4294967295 := by omega
  have h2 : 0 ≤ x2 ∧ x2 ≤ 4294967295 := by omega
  have h3 : 0 ≤ x3 ∧ x3 ≤ 4294967295 := by omega
  have h4 : 0 ≤ x4 ∧ x4 ≤ 4294967295 := by omega
  have p13 := pb h1 h3
  have p23 := pb h2 h3
  have p14 := pb h1 h4
  have p24 := pb h2 h4
  have ep : a * b = x1 * x3 + 4294967296 * (x2 * x3 + x1 * x4) + 18446744073709551616 * (x2 * x4) := by
    rw [ea, eb]; grind
  unfold math_bits_Mul64.f
  obtain ⟨x6, ex6⟩ : ∃ x, x = x2 * x3 + x1 * x3 / 4294967296 := ⟨_, rfl⟩
  obtain ⟨x9, ex9⟩ : ∃ x, x = x6 % 4294967296 + x1 * x4 := ⟨_, rfl⟩
  have hlo : IntKind.u64.wrap (a * b) = (a * b) % 18446744073709551616 := wu64 _
  have w5 : IntKind.u64.wrap (x1 * x3) = x1 * x3 := wrap_u64_of p13.1 (by omega)
  have w23 : IntKind.u64.wrap (x2 * x3) = x2 * x3 := wrap_u64_of p23.1 (by omega)
  have w14 : IntKind.u64.wrap (x1 * x4) = x1 * x4 := wrap_u64_of p14.1 (by omega)
  have w24 : IntKind.u64.wrap (x2 * x4) = x2 * x4 := wrap_u64_of p24.1 (by omega)
  refine ⟨x2 * x4 + x6 / 4294967296 + x9 / 4294967296, (a * b) % 18446744073709551616, ?_, by omega, by omega, by omega⟩
  have h32 : ∀ x : Int, Int.fdiv x (2 ^ 32) = x / 4294967296 := fun x => fd x _ (by decide)
  refine lt_rw ((and32 a ha).trans ex1.symm) ?_
  refine lt_rw ((h32 a).trans ex2.symm) ?_
  refine lt_rw ((and32 b hb).trans ex3.symm) ?_
  refine lt_rw ((h32 b).trans ex4.symm) ?_
  refine lt_rw w5 ?_
  refine lt_rw (y := x6) (by rw [w23, h32, wrap_u64_of (by omega) (by omega), ex6]) ?_
  refine lt_rw (and32 x6 (by omega)) ?_
  refine lt_rw (h32 x6) ?_
  refine lt_rw (y := x9) (by rw [w14, wrap_u64_of (by omega) (by omega), ex9]) ?_
  refine lt_rw (y := x2 * x4 + x6 / 4294967296 + x9 / 4294967296) (by rw [w24, h32, wrap_u64_of (x := x2 * x4 + x6 / 4294967296) (by omega) (by omega), wrap_u64_of (by omega) (by omega)]) ?_
  refine lt_rw hlo ?_
  rfl

theorem shift_spec (k : Nat) (hk : 5 ≤ k) {a : List Int} {m w : Int} (ha : Num a m) (hm : m < 7237005577332262213973186563042994240857116359379907606001950938285454250989) (hw : 0 ≤ w ∧ w < 18446744073709551616) :
    ∃ c, scalar_number_shift.f k a w = some c ∧ Num c ((w + 18446744073709551616 * m) % 7237005577332262213973186563042994240857116359379907606001950938285454250989) := by
  obtain ⟨x0, x1, x2, x3, rfl, a0, a1, a2, a3, e⟩ := ha.cases
  obtain ⟨q0, eq0⟩ : ∃ q, q = x2 / 1152921504606846976 + 16 * (x3 % 1152921504606846976) := ⟨_, rfl⟩
  obtain ⟨q1, eq1⟩ : ∃ q, q = x3 / 1152921504606846976 := ⟨_, rfl⟩
  have g0 : 0 ≤ q0 ∧ q0 < 18446744073709551616 := by omega
  have g1 : 0 ≤ q1 ∧ q1 ≤ 1 := by omega
  have g1' : 0 ≤ q1 ∧ q1 < 18446744073709551616 := by omega
  obtain ⟨h00, l00, e00, bh00, bl00, v00⟩ := mul_spec g0 (b := 6346243789798364141) (by decide)
  obtain ⟨h01, l01, e01, bh01, bl01, v01⟩ := mul_spec g0 (b := 1503914060200516822) (by decide)
  obtain ⟨h10, l10, e10, bh10, bl10, v10⟩ := mul_spec g1' (b := 6346243789798364141) (by decide)
  obtain ⟨h11, l11, e11, bh11, bl11, v11⟩ := mul_spec g1' (b := 1503914060200516822) (by decide)
  have hz : (0 : Int) ≤ 0 ∧ (0 : Int) < 18446744073709551616 := by decide
  obtain ⟨p1, ep1, np1⟩ := add_spec k hk (Num.mk' (n := l00 + 18446744073709551616 * h00 + 340282366920938463463374607431768211456 * h01) bl00 bh00 bh01 hz (by omega)) (Num.mk' (n := 18446744073709551616 * l01) hz bl01 hz hz (by omega))
  rw [Int.emod_eq_of_lt (by omega) (by omega)] at np1
  obtain ⟨p2, ep2, np2⟩ := add_spec k hk np1 (Num.mk' (n := 18446744073709551616 * l10 + 340282366920938463463374607431768211456 * h10) hz bl10 bh10 hz (by omega))
  rw [Int.emod_eq_of_lt (by omega) (by omega)] at np2
  obtain ⟨p3, ep3, np3⟩ := add_spec k hk np2 (Num.mk' (n := 340282366920938463463374607431768211456 * l11) hz hz bl11 hz (by omega))
  rw [Int.emod_eq_of_lt (by omega) (by omega)] at np3
  have hx2 : 0 ≤ x2 % 1152921504606846976 ∧ x2 % 1152921504606846976 < 18446744073709551616 := by omega
  obtain ⟨low, elow⟩ : ∃ low, low = w + 18446744073709551616 * x0 + 340282366920938463463374607431768211456 * x1 + 6277101735386680763835789423207666416102355444464034512896 * (x2 % 1152921504606846976) := ⟨_, rfl⟩
  obtain ⟨q, eq⟩ : ∃ q, q = q0 + 18446744073709551616 * q1 := ⟨_, rfl⟩
  have hq : w + 18446744073709551616 * m = low + 7237005577332262213973186563042994240857116359379907606001950938285454250989 * q - q * 27742317777372353535851937790883648493 := by omega
  obtain ⟨pp, epp⟩ : ∃ p, p = l00 + 18446744073709551616 * h00 + 340282366920938463463374607431768211456 * h01 + 18446744073709551616 * l01 + (18446744073709551616 * l10 + 340282366920938463463374607431768211456 * h10) + 340282366920938463463374607431768211456 * l11 := ⟨_, rfl⟩
  have hpp : pp = q * 27742317777372353535851937790883648493 := by omega
  have nlow := Num.mk' (n := low) hw a0 a1 hx2 (by omega)
  rw [← epp] at np3
  obtain ⟨r, er, nr⟩ := sub_spec k hk nlow np3
  have q3 : bits .or .u64 (Int.fdiv x2 (2 ^ 60)) (IntKind.u64.wrap (x3 * 2 ^ 4)) = q0 := by
    rw [fd _ _ (by decide), wu64, or_u64' 4 _ _ (by omega) (by omega) (by omega) (by omega) (by omega) (by omega)]; omega
  have q4 : bits .and .u64 x2 1152921504606846975 = x2 % 1152921504606846976 := and_u64 60 (by decide) x2 a2.1 a2.2
  unfold scalar_number_shift.f
  have fin : ∀ (l : List Int), Num l ((low - pp) % 7237005577332262213973186563042994240857116359379907606001950938285454250989) →
      ∃ c, bd (scalar_number_less.f k l) (fun r27 => some r27) = some c ∧ Num c ((w + 18446744073709551616 * m) % 7237005577332262213973186563042994240857116359379907606001950938285454250989) := by
    intro l hl
    obtain ⟨c, ec, nc⟩ := less_spec k hk hl (by omega)
    refine ⟨c, sbd ec rfl, ?_⟩
    rwa [Int.emod_emod, show (low - pp) % 7237005577332262213973186563042994240857116359379907606001950938285454250989 = (w + 18446744073709551616 * m) % 7237005577332262213973186563042994240857116359379907606001950938285454250989 by rw [hq, hpp]; omega] at nc
  have fin' : ∀ (l : List Int), Num l ((low - pp) % 7237005577332262213973186563042994240857116359379907606001950938285454250989) →
      scalar_number_shift.p1 k (if low < pp then 1 else 0) (r, if low < pp then 1 else 0) = some l →
      ∃ c, bd (scalar_number_shift.p1 k (if low < pp then 1 else 0) (r, if low < pp then 1 else 0)) (fun m26 => bd (scalar_number_less.f k m26) fun r27 => some r27) = some c ∧ Num c ((w + 18446744073709551616 * m) % 7237005577332262213973186563042994240857116359379907606001950938285454250989) := by
    intro l hl h
    obtain ⟨c, ec, nc⟩ := fin l hl
    exact ⟨c, sbd h ec, nc⟩
  have key : ∃ l, Num l ((low - pp) % 7237005577332262213973186563042994240857116359379907606001950938285454250989) ∧ scalar_number_shift.p1 k (if low < pp then 1 else 0) (r, if low < pp then 1 else 0) = some l := by
    by_cases h : low < pp
    · rw [if_pos h]
      obtain ⟨l, el, nl⟩ := add_spec k hk nr order_num
      refine ⟨l, ?_, sbd el rfl⟩
      have e1 : (low - pp) % 115792089237316195423570985008687907853269984665640564039457584007913129639936 = low - pp + 115792089237316195423570985008687907853269984665640564039457584007913129639936 := emod_of (q := -1) (by omega) (by omega) (by omega)
      rw [e1, emod_of (q := 1) (r := low - pp + 7237005577332262213973186563042994240857116359379907606001950938285454250989) (by omega) (by omega) (by omega)] at nl
      rwa [emod_of (q := -1) (r := low - pp + 7237005577332262213973186563042994240857116359379907606001950938285454250989) (by omega) (by omega) (by omega)]
    · rw [if_neg h]
      refine ⟨r, ?_, rfl⟩
      rw [Int.emod_eq_of_lt (by omega) (by omega)] at nr
      rwa [Int.emod_eq_of_lt (by omega) (by omega)]
  obtain ⟨l, nl, el⟩ := key
  obtain ⟨c, ec, nc⟩ := fin' l nl el
  refine ⟨c, ?_, nc⟩
  show lt _ _ = _
  refine lt_rw q3 ?_
  refine lt_rw (fd x3 _ (by decide)) ?_
  rw [← show q1 = x3 / 2 ^ 60 from eq1]
  refine sbd e00 ?_
  refine lt_rw rfl ?_
  refine lt_rw rfl ?_
  refine sbd e01 ?_
  refine lt_rw rfl ?_
  refine lt_rw rfl ?_
  refine sbd e10 ?_
  refine lt_rw rfl ?_
  refine lt_rw rfl ?_
  refine sbd e11 ?_
  refine lt_rw rfl ?_
  refine sbd ep1 ?_
  refine sbd ep2 ?_
  refine sbd ep3 ?_
  refine sbd (show scalar_number_sub.f k [w, x0, x1, bits .and .u64 x2 1152921504606846975] p3 = _ by rw [q4]; exact er) ?_
  exact ec
end Go.Proofs.YtpnkcajlgaokiaaDoor

namespace Go.Proofs.YtpnkcajlgaokiaaDoor
open Go Go.Gx
theorem word_step (k : Nat) {a : List Int} (hl : a.length ≤ 1000) (ha : ∀ x ∈ a, IntKind.u8.has x) (i j : Nat) (hi : i + j < a.length) {w y : Int} (yi : y = (i : Int)) (hj : j < 8) (h0 : 0 ≤ w) (h1 : w < 72057594037927936) :
    scalar_reduce.p2 (k + 1) a y w (j : Int) = scalar_reduce.p2 k a y (w * 256 + a.getD (i + j) 0) ((j : Int) - 1) := by
  subst yi
  have hb := getD_u8 a ha (i + j)
  rw [scalar_reduce.p2, decide_eq_true (show (j : Int) ≥ 0 by omega)]
  simp only [br, lt]
  rw [wrap_i64_of (x := (i : Int) + j) (by omega) (by omega), chk_pos ⟨by omega, by omega⟩, wrap_i64_of (by omega) (by omega), show ((i : Int) + j).toNat = i + j by omega]
  rw [wu64, wrap_u64_of (x := a.getD (i + j) 0) hb.1 (by omega), Int.emod_eq_of_lt (by omega) (by omega), or_u64 8 _ _ (by omega) (by omega) (by omega) hb.1 (by omega) (by omega)]
  rfl
theorem word_spec (k : Nat) (hk : 9 ≤ k) {a : List Int} (hl : a.length ≤ 1000) (ha : ∀ x ∈ a, IntKind.u8.has x) (i : Nat) (hi : i + 8 ≤ a.length)  :
    ∃ w, scalar_reduce.p2 k a (i : Int) 0 7 = some w ∧ (0 ≤ w ∧ w < 18446744073709551616) ∧ B (a.drop i) = w + 18446744073709551616 * B (a.drop (i + 8)) := by
  obtain ⟨k, rfl⟩ := Nat.exists_eq_add_of_le' hk
  have b := fun j => getD_u8 a ha (i + j)
  have d0 : B (a.drop (i + 0)) = a.getD (i + 0) 0 + 256 * B (a.drop (i + 1)) := B_drop a (i + 0) (by omega)
  have d1 : B (a.drop (i + 1)) = a.getD (i + 1) 0 + 256 * B (a.drop (i + 2)) := B_drop a (i + 1) (by omega)
  have d2 : B (a.drop (i + 2)) = a.getD (i + 2) 0 + 256 * B (a.drop (i + 3)) := B_drop a (i + 2) (by omega)
  have d3 : B (a.drop (i + 3)) = a.getD (i + 3) 0 + 256 * B (a.drop (i + 4)) := B_drop a (i + 3) (by omega)
  have d4 : B (a.drop (i + 4)) = a.getD (i + 4) 0 + 256 * B (a.drop (i + 5)) := B_drop a (i + 4) (by omega)
  have d5 : B (a.drop (i + 5)) = a.getD (i + 5) 0 + 256 * B (a.drop (i + 6)) := B_drop a (i + 5) (by omega)
  have d6 : B (a.drop (i + 6)) = a.getD (i + 6) 0 + 256 * B (a.drop (i + 7)) := B_drop a (i + 6) (by omega)
  have d7 : B (a.drop (i + 7)) = a.getD (i + 7) 0 + 256 * B (a.drop (i + 8)) := B_drop a (i + 7) (by omega)
  have b0 := b 0; have b1 := b 1; have b2 := b 2; have b3 := b 3; have b4 := b 4; have b5 := b 5; have b6 := b 6; have b7 := b 7
  clear b
  show ∃ w, _ ∧ _ ∧ B (a.drop (i + 0)) = _
  have s := fun k j w => word_step k hl ha i j (y := i) (w := w)
  have s7 := s (k + 8) 7 0 (by omega) rfl (by omega) (by omega) (by omega)
  have s6 := s (k + 7) 6 _ (by omega) rfl (by omega) (by omega) (by omega) |> fun h => (h : scalar_reduce.p2 (k + 8) a i (0 * 256 + a.getD (i + 7) 0) 6 = _)
  have s5 := s (k + 6) 5 _ (by omega) rfl (by omega) (by omega) (by omega) |> fun h => (h : scalar_reduce.p2 (k + 7) a i ((0 * 256 + a.getD (i + 7) 0) * 256 + a.getD (i + 6) 0) 5 = _)
  have s4 := s (k + 5) 4 _ (by omega) rfl (by omega) (by omega) (by omega) |> fun h => (h : scalar_reduce.p2 (k + 6) a i (((0 * 256 + a.getD (i + 7) 0) * 256 + a.getD (i + 6) 0) * 256 + a.getD (i + 5) 0) 4 = _)
  have s3 := s (k + 4) 3 _ (by omega) rfl (by omega) (by omega) (by omega) |> fun h => (h : scalar_reduce.p2 (k + 5) a i ((((0 * 256 + a.getD (i + 7) 0) * 256 + a.getD (i + 6) 0) * 256 + a.getD (i + 5) 0) * 256 + a.getD (i + 4) 0) 3 = _)
  have s2 := s (k + 3) 2 _ (by omega) rfl (by omega) (by omega) (by omega) |> fun h => (h : scalar_reduce.p2 (k + 4) a i (((((0 * 256 + a.getD (i + 7) 0) * 256 + a.getD (i + 6) 0) * 256 + a.getD (i + 5) 0) * 256 + a.getD (i + 4) 0) * 256 + a.getD (i + 3) 0) 2 = _)
  have s1 := s (k + 2) 1 _ (by omega) rfl (by omega) (by omega) (by omega) |> fun h => (h : scalar_reduce.p2 (k + 3) a i ((((((0 * 256 + a.getD (i + 7) 0) * 256 + a.getD (i + 6) 0) * 256 + a.getD (i + 5) 0) * 256 + a.getD (i + 4) 0) * 256 + a.getD (i + 3) 0) * 256 + a.getD (i + 2) 0) 1 = _)
  have s0 := s (k + 1) 0 _ (by omega) rfl (by omega) (by omega) (by omega) |> fun h => (h : scalar_reduce.p2 (k + 2) a i (((((((0 * 256 + a.getD (i + 7) 0) * 256 + a.getD (i + 6) 0) * 256 + a.getD (i + 5) 0) * 256 + a.getD (i + 4) 0) * 256 + a.getD (i + 3) 0) * 256 + a.getD (i + 2) 0) * 256 + a.getD (i + 1) 0) 0 = _)
  refine ⟨_, s7.trans (s6.trans (s5.trans (s4.trans (s3.trans (s2.trans (s1.trans (s0.trans rfl))))))), by omega, by omega⟩
theorem emul (m L w P : Int) : (w + P * (m % L)) % L = (w + P * m) % L := by
  conv => rhs; rw [← Int.mul_ediv_add_emod m L, Int.mul_add, ← Int.mul_assoc, Int.mul_comm P L, Int.mul_assoc]
  rw [show w + (L * (P * (m / L)) + P * (m % L)) = w + P * (m % L) + L * (P * (m / L)) by omega, Int.add_mul_emod_self_left]
theorem reduce_loop (n k : Nat) (hk : n + 9 ≤ k) {a z : List Int} (hl : a.length ≤ 1000) (ha : ∀ x ∈ a, IntKind.u8.has x) (hn : 8 * n ≤ a.length) (hz : Num z (B (a.drop (8 * n)) % 7237005577332262213973186563042994240857116359379907606001950938285454250989)) :
    ∃ c, scalar_reduce.p1 k a z (8 * (n : Int) - 8) = some c ∧ Num c (B a % 7237005577332262213973186563042994240857116359379907606001950938285454250989) := by
  induction n generalizing k z with
  | zero =>
    obtain ⟨k, rfl⟩ := Nat.exists_eq_add_of_le' (show 1 ≤ k by omega)
    exact ⟨z, rfl, hz⟩
  | succ n ih =>
    obtain ⟨k, rfl⟩ := Nat.exists_eq_add_of_le' (show 1 ≤ k by omega)
    obtain ⟨w, ew, bw, hw⟩ := word_spec k (by omega) hl ha (8 * n) (by omega)
    obtain ⟨c, ec, nc⟩ := shift_spec k (by omega) hz (by omega) bw
    rw [emul, show 8 * (n + 1) = 8 * n + 8 by omega, ← hw] at nc
    obtain ⟨d, ed, nd⟩ := ih k (by omega) (by omega) nc
    refine ⟨d, ?_, nd⟩
    rw [scalar_reduce.p1, show 8 * ((n + 1 : Nat) : Int) - 8 = ((8 * n : Nat) : Int) by omega, decide_eq_true (show ((8 * n : Nat) : Int) ≥ 0 by omega)]
    refine sbd ew ?_
    refine sbd ec ?_
    refine lt_rw (wrap_i64_of (by omega) (by omega)) ?_
    rw [show ((8 * n : Nat) : Int) - 8 = 8 * (n : Int) - 8 by omega]
    exact ed
theorem reduce_spec (n k : Nat) (hk : n + 9 ≤ k) {a : List Int} (hn : a.length = 8 * n) (hn' : n ≤ 100) (ha : ∀ x ∈ a, IntKind.u8.has x) :
    ∃ c, scalar_reduce.f k a = some c ∧ Num c (B a % 7237005577332262213973186563042994240857116359379907606001950938285454250989) := by
  unfold scalar_reduce.f
  obtain ⟨c, ec, nc⟩ := reduce_loop n k hk (a := a) (z := List.replicate 4 0) (by omega) ha (by omega) (by
    rw [List.drop_of_length_le (by omega)]
    exact ⟨rfl, fun x hx => by rw [List.eq_of_mem_replicate hx]; decide, rfl⟩)
  refine ⟨c, ?_, nc⟩
  refine lt_rw (y := 8 * (n : Int) - 8) (by rw [wrap_i64_of (by omega) (by omega), hn]; omega) ?_
  exact sbd ec rfl
-- bytes
theorem bytes_loop (d k : Nat) (hk : d + 1 ≤ k) (a : List Int) (hd : d ≤ 32) :
    scalar_number_bytes.p1 k a (fil (wb a) 32 (32 - d)) ((32 - d : Nat) : Int) = some ((List.range 32).map (wb a)) := by
  induction d generalizing k with
  | zero =>
    obtain ⟨k, rfl⟩ := Nat.exists_eq_add_of_le' (show 1 ≤ k by omega)
    rw [Nat.sub_zero, fil_all]; rfl
  | succ d ih =>
    obtain ⟨k, rfl⟩ := Nat.exists_eq_add_of_le' (show 1 ≤ k by omega)
    obtain ⟨i, ei⟩ : ∃ i, i = 32 - (d + 1) := ⟨_, rfl⟩
    have hi : i < 32 := by omega
    rw [← ei]
    rw [scalar_number_bytes.p1, decide_eq_true (show (i : Int) < 32 by omega)]
    simp only [br, lt]
    rw [show Int.tdiv (i : Int) 8 = ((i / 8 : Nat) : Int) from rfl, show Int.tmod (i : Int) 8 = ((i % 8 : Nat) : Int) from rfl]
    rw [wrap_i64_of (x := ((i / 8 : Nat) : Int)) (by omega) (by omega), wrap_i64_of (x := 8 * ((i % 8 : Nat) : Int)) (by omega) (by omega), wrap_i64_of (x := (i : Int) + 1) (by omega) (by omega)]
    rw [chk_pos ⟨by omega, by omega⟩, chk_pos (by omega), chk_pos ⟨by omega, by omega⟩]
    rw [show (((i / 8 : Nat) : Int)).toNat = i / 8 by omega, show (8 * ((i % 8 : Nat) : Int)).toNat = 8 * (i % 8) by omega, show (i : Int).toNat = i by omega]
    rw [show min (8 * (i % 8)) IntKind.u64.bits = 8 * (i % 8) from Nat.min_eq_left (show 8 * (i % 8) ≤ 64 by omega), fd _ _ (Int.le_of_lt (Int.pow_pos (by decide))), IntKind.wrap_u8]
    rw [show a.getD (i / 8) 0 / 2 ^ (8 * (i % 8)) % 256 = wb a i from rfl, fil_set _ _ _ hi, show (i : Int) + 1 = ((i + 1 : Nat) : Int) by omega, show i + 1 = 32 - d by omega]
    exact ih k (by omega) (by omega)
theorem bytes_spec (k : Nat) (hk : 33 ≤ k) {a : List Int} {n : Int} (h : Num a n) : scalar_number_bytes.f k a = some (toB 32 n) := by
  unfold scalar_number_bytes.f
  have := bytes_loop 32 k hk a (by decide)
  rw [Nat.sub_self, fil_zero] at this
  refine sbd this ?_
  have e : (List.range 32).map (wb a) = toB 32 n := eq_toB (wb_u8 a 32) (by simp) (by have := wb_bytes a h.w; rw [h.len, h.v] at this; exact this)
  rw [e]
def L : Int := 7237005577332262213973186563042994240857116359379907606001950938285454250989
def By (a : List Int) (n : Nat) : Prop := a.length = n ∧ ∀ x ∈ a, IntKind.u8.has x
theorem By.toB (n : Nat) (m : Int) : By (toB n m) n := ⟨toB_length n m, toB_u8 n m⟩
theorem B_nonneg {a : List Int} {n : Nat} (h : By a n) : 0 ≤ B a := (B_bound a h.2).1
theorem B_lt {a : List Int} (h : By a 32) : B a < 115792089237316195423570985008687907853269984665640564039457584007913129639936 := by
  have := (B_bound a h.2).2
  rw [h.1] at this
  exact this
theorem red (k : Nat) (hk : 100 ≤ k) {a : List Int} (n : Nat) (hn : n ≤ 10) (h : By a (8 * n)) : ∃ c, scalar_reduce.f k a = some c ∧ Num c (B a % L) :=
  reduce_spec n k (by omega) h.1 (by omega) h.2
theorem L_pos : 0 < L := by decide
theorem mL (n : Int) : 0 ≤ n % L ∧ n % L < 7237005577332262213973186563042994240857116359379907606001950938285454250989 := ⟨Int.emod_nonneg _ (by decide), Int.emod_lt_of_pos _ L_pos⟩
theorem reduce_law (k : Nat) (hk : 100 ≤ k) {a : List Int} (h : By a 64) : scalar_Reduce.f k a = some (toB 32 (B a % L)) := by
  obtain ⟨c, ec, nc⟩ := red k hk 8 (by decide) h
  exact sbd ec (sbd (bytes_spec k (by omega) nc) rfl)
theorem canonical_law (k : Nat) (hk : 100 ≤ k) {a : List Int} (h : By a 32) : scalar_Canonical.f k a = some (decide (B a < L)) := by
  obtain ⟨c, ec, nc⟩ := red k hk 4 (by decide) h
  refine sbd ec (sbd (bytes_spec k (by omega) nc) ?_)
  congr 1
  by_cases hl : B a < L
  · rw [Int.emod_eq_of_lt (B_nonneg h) hl, ← h.1, toB_B a h.2, decide_eq_true hl]; exact beq_self_eq_true _
  · rw [decide_eq_false hl, beq_eq_false_iff_ne]
    intro e
    have := congrArg B e
    have h1 := mL (B a)
    rw [B_toB, Int.emod_eq_of_lt h1.1 (by simp; omega)] at this
    rw [this] at h1
    exact hl h1.2
theorem add_law (k : Nat) (hk : 100 ≤ k) {a b : List Int} (ha : By a 32) (hb : By b 32) : scalar_Add.f k a b = some (toB 32 ((B a + B b) % L)) := by
  obtain ⟨c, ec, nc⟩ := red k hk 4 (by decide) ha
  obtain ⟨d, ed, nd⟩ := red k hk 4 (by decide) hb
  have h1 := mL (B a)
  have h2 := mL (B b)
  obtain ⟨s, es, ns⟩ := add_spec k (by omega) nc nd
  rw [Int.emod_eq_of_lt (by omega) (by omega)] at ns
  obtain ⟨r, er, nr⟩ := less_spec k (by omega) ns (by omega)
  rw [show (B a % L + B b % L) % 7237005577332262213973186563042994240857116359379907606001950938285454250989 = (B a + B b) % L from (Int.add_emod _ _ _).symm] at nr
  exact sbd ec (sbd ed (sbd es (sbd er (sbd (bytes_spec k (by omega) nr) rfl))))
theorem neg_law (k : Nat) (hk : 100 ≤ k) {a : List Int} (ha : By a 32) : scalar_Neg.f k a = some (toB 32 ((-B a) % L)) := by
  obtain ⟨c, ec, nc⟩ := red k hk 4 (by decide) ha
  have h1 := mL (B a)
  obtain ⟨s, es, ns⟩ := sub_spec k (by omega) order_num nc
  rw [Int.emod_eq_of_lt (by omega) (by omega)] at ns
  obtain ⟨r, er, nr⟩ := less_spec k (by omega) ns (by omega)
  rw [show (7237005577332262213973186563042994240857116359379907606001950938285454250989 - B a % L) % 7237005577332262213973186563042994240857116359379907606001950938285454250989 = (-B a) % L by unfold L; omega] at nr
  exact sbd ec (sbd es (sbd er (sbd (bytes_spec k (by omega) nr) rfl)))
end Go.Proofs.YtpnkcajlgaokiaaDoor

namespace Go.Proofs.YtpnkcajlgaokiaaDoor
open Go Go.Gx
theorem mul_step (k : Nat) (i j ij : Nat) (hi : i < 4) (hj : j < 4) (hij : i + j = ij) {r5 r6 w : List Int} {c x y v : Int} {jj : Int} (ex : r5.getD i 0 = x) (ey : r6.getD j 0 = y) (ev : w.getD ij 0 = v) (ejj : (j : Int) + 1 = jj)
    (hx : 0 ≤ x ∧ x < 18446744073709551616) (hy : 0 ≤ y ∧ y < 18446744073709551616) (hv : 0 ≤ v ∧ v < 18446744073709551616) (hc : 0 ≤ c ∧ c < 18446744073709551616) :
    ∃ r q, (0 ≤ r ∧ r < 18446744073709551616) ∧ (0 ≤ q ∧ q < 18446744073709551616) ∧ r + 18446744073709551616 * q = x * y + v + c ∧
      scalar_MulAdd.p2 (k + 1) (i : Int) r5 r6 w c (j : Int) = scalar_MulAdd.p2 k (i : Int) r5 r6 (w.set ij r) q jj := by
  subst ex ey ev hij ejj
  obtain ⟨h, l, e, bh, bl, em⟩ := mul_spec hx hy
  obtain ⟨p, ep⟩ := pb (P := 18446744073709551615) (Q := 18446744073709551615) ⟨hx.1, by omega⟩ ⟨hy.1, by omega⟩
  rw [em] at ep
  refine ⟨((l + w.getD (i + j) 0) % 18446744073709551616 + c) % 18446744073709551616, h + (l + w.getD (i + j) 0) / 18446744073709551616 + ((l + w.getD (i + j) 0) % 18446744073709551616 + c) / 18446744073709551616, by omega, by omega, by omega, ?_⟩
  rw [scalar_MulAdd.p2, decide_eq_true (show (j : Int) < 4 by omega)]
  simp only [br]
  rw [wrap_i64_of (x := (i : Int) + j) (by omega) (by omega), show ((i : Int) + j).toNat = i + j by omega, show (i : Int).toNat = i by omega, show (j : Int).toNat = j by omega]
  rw [chk_pos ⟨by omega, by omega⟩, chk_pos ⟨by omega, by omega⟩]
  refine sbd e ?_
  refine lt_rw rfl ?_
  refine lt_rw rfl ?_
  rw [chk_pos ⟨by omega, by omega⟩, chk_pos ⟨bl.1, hv.1, by decide, by decide⟩]
  refine lt_rw (by rw [Int.add_zero]) ?_
  refine lt_rw (by rw [Int.add_zero]) ?_
  rw [chk_pos ⟨by omega, hc.1, by decide, by decide⟩]
  refine lt_rw (by rw [Int.add_zero]) ?_
  refine lt_rw (by rw [Int.add_zero]) ?_
  refine lt_rw (y := h + (l + w.getD (i + j) 0) / 18446744073709551616 + ((l + w.getD (i + j) 0) % 18446744073709551616 + c) / 18446744073709551616) (by rw [wrap_u64_of (x := h + (l + w.getD (i + j) 0) / 18446744073709551616) (by omega) (by omega), wrap_u64_of (by omega) (by omega)]) ?_
  exact lt_rw (wrap_i64_of (by omega) (by omega)) rfl
theorem row0 (k : Nat) (hk : 5 ≤ k) {x0 x1 x2 x3 y0 y1 y2 y3 v0 v1 v2 v3 v4 v5 v6 v7 : Int} (hx : (0 ≤ x0 ∧ x0 < 18446744073709551616)) (hy0 : (0 ≤ y0 ∧ y0 < 18446744073709551616)) (hy1 : (0 ≤ y1 ∧ y1 < 18446744073709551616)) (hy2 : (0 ≤ y2 ∧ y2 < 18446744073709551616)) (hy3 : (0 ≤ y3 ∧ y3 < 18446744073709551616)) (hv0 : (0 ≤ v0 ∧ v0 < 18446744073709551616)) (hv1 : (0 ≤ v1 ∧ v1 < 18446744073709551616)) (hv2 : (0 ≤ v2 ∧ v2 < 18446744073709551616)) (hv3 : (0 ≤ v3 ∧ v3 < 18446744073709551616)) :
    ∃ r0 r1 r2 r3 q, (0 ≤ r0 ∧ r0 < 18446744073709551616) ∧ (0 ≤ r1 ∧ r1 < 18446744073709551616) ∧ (0 ≤ r2 ∧ r2 < 18446744073709551616) ∧ (0 ≤ r3 ∧ r3 < 18446744073709551616) ∧ (0 ≤ q ∧ q < 18446744073709551616) ∧ r0 + 18446744073709551616 * r1 + 340282366920938463463374607431768211456 * r2 + 6277101735386680763835789423207666416102355444464034512896 * r3 + 115792089237316195423570985008687907853269984665640564039457584007913129639936 * q = (v0 + 18446744073709551616 * v1 + 340282366920938463463374607431768211456 * v2 + 6277101735386680763835789423207666416102355444464034512896 * v3) + x0 * (y0 + 18446744073709551616 * y1 + 340282366920938463463374607431768211456 * y2 + 6277101735386680763835789423207666416102355444464034512896 * y3) ∧
      scalar_MulAdd.p2 k 0 [x0, x1, x2, x3] [y0, y1, y2, y3] [v0, v1, v2, v3, v4, v5, v6, v7] 0 0 = some (q, [r0, r1, r2, r3, v4, v5, v6, v7]) := by
  obtain ⟨k, rfl⟩ := Nat.exists_eq_add_of_le' hk
  have hz : (0 : Int) ≤ 0 ∧ (0 : Int) < 18446744073709551616 := by decide
  obtain ⟨r0, q0, br0, bq0, e0, s0⟩ := mul_step (k + 4) 0 0 0 (by decide) (by decide) rfl (r5 := [x0, x1, x2, x3]) (r6 := [y0, y1, y2, y3]) (w := [v0, v1, v2, v3, v4, v5, v6, v7]) (c := 0) (x := x0) (y := y0) (v := v0) rfl rfl rfl rfl hx hy0 hv0 hz
  obtain ⟨r1, q1, br1, bq1, e1, s1⟩ := mul_step (k + 3) 0 1 1 (by decide) (by decide) rfl (r5 := [x0, x1, x2, x3]) (r6 := [y0, y1, y2, y3]) (w := [r0, v1, v2, v3, v4, v5, v6, v7]) (c := q0) (x := x0) (y := y1) (v := v1) rfl rfl rfl rfl hx hy1 hv1 bq0
  obtain ⟨r2, q2, br2, bq2, e2, s2⟩ := mul_step (k + 2) 0 2 2 (by decide) (by decide) rfl (r5 := [x0, x1, x2, x3]) (r6 := [y0, y1, y2, y3]) (w := [r0, r1, v2, v3, v4, v5, v6, v7]) (c := q1) (x := x0) (y := y2) (v := v2) rfl rfl rfl rfl hx hy2 hv2 bq1
  obtain ⟨r3, q3, br3, bq3, e3, s3⟩ := mul_step (k + 1) 0 3 3 (by decide) (by decide) rfl (r5 := [x0, x1, x2, x3]) (r6 := [y0, y1, y2, y3]) (w := [r0, r1, r2, v3, v4, v5, v6, v7]) (c := q2) (x := x0) (y := y3) (v := v3) rfl rfl rfl rfl hx hy3 hv3 bq2
  refine ⟨r0, r1, r2, r3, q3, br0, br1, br2, br3, bq3, ?_, s0.trans (s1.trans (s2.trans (s3.trans rfl)))⟩
  have em : x0 * (y0 + 18446744073709551616 * y1 + 340282366920938463463374607431768211456 * y2 + 6277101735386680763835789423207666416102355444464034512896 * y3) = x0 * y0 + 18446744073709551616 * (x0 * y1) + 340282366920938463463374607431768211456 * (x0 * y2) + 6277101735386680763835789423207666416102355444464034512896 * (x0 * y3) := by grind
  rw [em]
  omega
theorem row1 (k : Nat) (hk : 5 ≤ k) {x0 x1 x2 x3 y0 y1 y2 y3 v0 v1 v2 v3 v4 v5 v6 v7 : Int} (hx : (0 ≤ x1 ∧ x1 < 18446744073709551616)) (hy0 : (0 ≤ y0 ∧ y0 < 18446744073709551616)) (hy1 : (0 ≤ y1 ∧ y1 < 18446744073709551616)) (hy2 : (0 ≤ y2 ∧ y2 < 18446744073709551616)) (hy3 : (0 ≤ y3 ∧ y3 < 18446744073709551616)) (hv1 : (0 ≤ v1 ∧ v1 < 18446744073709551616)) (hv2 : (0 ≤ v2 ∧ v2 < 18446744073709551616)) (hv3 : (0 ≤ v3 ∧ v3 < 18446744073709551616)) (hv4 : (0 ≤ v4 ∧ v4 < 18446744073709551616)) :
    ∃ r0 r1 r2 r3 q, (0 ≤ r0 ∧ r0 < 18446744073709551616) ∧ (0 ≤ r1 ∧ r1 < 18446744073709551616) ∧ (0 ≤ r2 ∧ r2 < 18446744073709551616) ∧ (0 ≤ r3 ∧ r3 < 18446744073709551616) ∧ (0 ≤ q ∧ q < 18446744073709551616) ∧ r0 + 18446744073709551616 * r1 + 340282366920938463463374607431768211456 * r2 + 6277101735386680763835789423207666416102355444464034512896 * r3 + 115792089237316195423570985008687907853269984665640564039457584007913129639936 * q = (v1 + 18446744073709551616 * v2 + 340282366920938463463374607431768211456 * v3 + 6277101735386680763835789423207666416102355444464034512896 * v4) + x1 * (y0 + 18446744073709551616 * y1 + 340282366920938463463374607431768211456 * y2 + 6277101735386680763835789423207666416102355444464034512896 * y3) ∧
      scalar_MulAdd.p2 k 1 [x0, x1, x2, x3] [y0, y1, y2, y3] [v0, v1, v2, v3, v4, v5, v6, v7] 0 0 = some (q, [v0, r0, r1, r2, r3, v5, v6, v7]) := by
  obtain ⟨k, rfl⟩ := Nat.exists_eq_add_of_le' hk
  have hz : (0 : Int) ≤ 0 ∧ (0 : Int) < 18446744073709551616 := by decide
  obtain ⟨r0, q0, br0, bq0, e0, s0⟩ := mul_step (k + 4) 1 0 1 (by decide) (by decide) rfl (r5 := [x0, x1, x2, x3]) (r6 := [y0, y1, y2, y3]) (w := [v0, v1, v2, v3, v4, v5, v6, v7]) (c := 0) (x := x1) (y := y0) (v := v1) rfl rfl rfl rfl hx hy0 hv1 hz
  obtain ⟨r1, q1, br1, bq1, e1, s1⟩ := mul_step (k + 3) 1 1 2 (by decide) (by decide) rfl (r5 := [x0, x1, x2, x3]) (r6 := [y0, y1, y2, y3]) (w := [v0, r0, v2, v3, v4, v5, v6, v7]) (c := q0) (x := x1) (y := y1) (v := v2) rfl rfl rfl rfl hx hy1 hv2 bq0
  obtain ⟨r2, q2, br2, bq2, e2, s2⟩ := mul_step (k + 2) 1 2 3 (by decide) (by decide) rfl (r5 := [x0, x1, x2, x3]) (r6 := [y0, y1, y2, y3]) (w := [v0, r0, r1, v3, v4, v5, v6, v7]) (c := q1) (x := x1) (y := y2) (v := v3) rfl rfl rfl rfl hx hy2 hv3 bq1
  obtain ⟨r3, q3, br3, bq3, e3, s3⟩ := mul_step (k + 1) 1 3 4 (by decide) (by decide) rfl (r5 := [x0, x1, x2, x3]) (r6 := [y0, y1, y2, y3]) (w := [v0, r0, r1, r2, v4, v5, v6, v7]) (c := q2) (x := x1) (y := y3) (v := v4) rfl rfl rfl rfl hx hy3 hv4 bq2
  refine ⟨r0, r1, r2, r3, q3, br0, br1, br2, br3, bq3, ?_, s0.trans (s1.trans (s2.trans (s3.trans rfl)))⟩
  have em : x1 * (y0 + 18446744073709551616 * y1 + 340282366920938463463374607431768211456 * y2 + 6277101735386680763835789423207666416102355444464034512896 * y3) = x1 * y0 + 18446744073709551616 * (x1 * y1) + 340282366920938463463374607431768211456 * (x1 * y2) + 6277101735386680763835789423207666416102355444464034512896 * (x1 * y3) := by grind
  rw [em]
  omega
theorem row2 (k : Nat) (hk : 5 ≤ k) {x0 x1 x2 x3 y0 y1 y2 y3 v0 v1 v2 v3 v4 v5 v6 v7 : Int} (hx : (0 ≤ x2 ∧ x2 < 18446744073709551616)) (hy0 : (0 ≤ y0 ∧ y0 < 18446744073709551616)) (hy1 : (0 ≤ y1 ∧ y1 < 18446744073709551616)) (hy2 : (0 ≤ y2 ∧ y2 < 18446744073709551616)) (hy3 : (0 ≤ y3 ∧ y3 < 18446744073709551616)) (hv2 : (0 ≤ v2 ∧ v2 < 18446744073709551616)) (hv3 : (0 ≤ v3 ∧ v3 < 18446744073709551616)) (hv4 : (0 ≤ v4 ∧ v4 < 18446744073709551616)) (hv5 : (0 ≤ v5 ∧ v5 < 18446744073709551616)) :
    ∃ r0 r1 r2 r3 q, (0 ≤ r0 ∧ r0 < 18446744073709551616) ∧ (0 ≤ r1 ∧ r1 < 18446744073709551616) ∧ (0 ≤ r2 ∧ r2 < 18446744073709551616) ∧ (0 ≤ r3 ∧ r3 < 18446744073709551616) ∧ (0 ≤ q ∧ q < 18446744073709551616) ∧ r0 + 18446744073709551616 * r1 + 340282366920938463463374607431768211456 * r2 + 6277101735386680763835789423207666416102355444464034512896 * r3 + 115792089237316195423570985008687907853269984665640564039457584007913129639936 * q = (v2 + 18446744073709551616 * v3 + 340282366920938463463374607431768211456 * v4 + 6277101735386680763835789423207666416102355444464034512896 * v5) + x2 * (y0 + 18446744073709551616 * y1 + 340282366920938463463374607431768211456 * y2 + 6277101735386680763835789423207666416102355444464034512896 * y3) ∧
      scalar_MulAdd.p2 k 2 [x0, x1, x2, x3] [y0, y1, y2, y3] [v0, v1, v2, v3, v4, v5, v6, v7] 0 0 = some (q, [v0, v1, r0, r1, r2, r3, v6, v7]) := by
  obtain ⟨k, rfl⟩ := Nat.exists_eq_add_of_le' hk
  have hz : (0 : Int) ≤ 0 ∧ (0 : Int) < 18446744073709551616 := by decide
  obtain ⟨r0, q0, br0, bq0, e0, s0⟩ := mul_step (k + 4) 2 0 2 (by decide) (by decide) rfl (r5 := [x0, x1, x2, x3]) (r6 := [y0, y1, y2, y3]) (w := [v0, v1, v2, v3, v4, v5, v6, v7]) (c := 0) (x := x2) (y := y0) (v := v2) rfl rfl rfl rfl hx hy0 hv2 hz
  obtain ⟨r1, q1, br1, bq1, e1, s1⟩ := mul_step (k + 3) 2 1 3 (by decide) (by decide) rfl (r5 := [x0, x1, x2, x3]) (r6 := [y0, y1, y2, y3]) (w := [v0, v1, r0, v3, v4, v5, v6, v7]) (c := q0) (x := x2) (y := y1) (v := v3) rfl rfl rfl rfl hx hy1 hv3 bq0
  obtain ⟨r2, q2, br2, bq2, e2, s2⟩ := mul_step (k + 2) 2 2 4 (by decide) (by decide) rfl (r5 := [x0, x1, x2, x3]) (r6 := [y0, y1, y2, y3]) (w := [v0, v1, r0, r1, v4, v5, v6, v7]) (c := q1) (x := x2) (y := y2) (v := v4) rfl rfl rfl rfl hx hy2 hv4 bq1
  obtain ⟨r3, q3, br3, bq3, e3, s3⟩ := mul_step (k + 1) 2 3 5 (by decide) (by decide) rfl (r5 := [x0, x1, x2, x3]) (r6 := [y0, y1, y2, y3]) (w := [v0, v1, r0, r1, r2, v5, v6, v7]) (c := q2) (x := x2) (y := y3) (v := v5) rfl rfl rfl rfl hx hy3 hv5 bq2
  refine ⟨r0, r1, r2, r3, q3, br0, br1, br2, br3, bq3, ?_, s0.trans (s1.trans (s2.trans (s3.trans rfl)))⟩
  have em : x2 * (y0 + 18446744073709551616 * y1 + 340282366920938463463374607431768211456 * y2 + 6277101735386680763835789423207666416102355444464034512896 * y3) = x2 * y0 + 18446744073709551616 * (x2 * y1) + 340282366920938463463374607431768211456 * (x2 * y2) + 6277101735386680763835789423207666416102355444464034512896 * (x2 * y3) := by grind
  rw [em]
  omega
theorem row3 (k : Nat) (hk : 5 ≤ k) {x0 x1 x2 x3 y0 y1 y2 y3 v0 v1 v2 v3 v4 v5 v6 v7 : Int} (hx : (0 ≤ x3 ∧ x3 < 18446744073709551616)) (hy0 : (0 ≤ y0 ∧ y0 < 18446744073709551616)) (hy1 : (0 ≤ y1 ∧ y1 < 18446744073709551616)) (hy2 : (0 ≤ y2 ∧ y2 < 18446744073709551616)) (hy3 : (0 ≤ y3 ∧ y3 < 18446744073709551616)) (hv3 : (0 ≤ v3 ∧ v3 < 18446744073709551616)) (hv4 : (0 ≤ v4 ∧ v4 < 18446744073709551616)) (hv5 : (0 ≤ v5 ∧ v5 < 18446744073709551616)) (hv6 : (0 ≤ v6 ∧ v6 < 18446744073709551616)) :
    ∃ r0 r1 r2 r3 q, (0 ≤ r0 ∧ r0 < 18446744073709551616) ∧ (0 ≤ r1 ∧ r1 < 18446744073709551616) ∧ (0 ≤ r2 ∧ r2 < 18446744073709551616) ∧ (0 ≤ r3 ∧ r3 < 18446744073709551616) ∧ (0 ≤ q ∧ q < 18446744073709551616) ∧ r0 + 18446744073709551616 * r1 + 340282366920938463463374607431768211456 * r2 + 6277101735386680763835789423207666416102355444464034512896 * r3 + 115792089237316195423570985008687907853269984665640564039457584007913129639936 * q = (v3 + 18446744073709551616 * v4 + 340282366920938463463374607431768211456 * v5 + 6277101735386680763835789423207666416102355444464034512896 * v6) + x3 * (y0 + 18446744073709551616 * y1 + 340282366920938463463374607431768211456 * y2 + 6277101735386680763835789423207666416102355444464034512896 * y3) ∧
      scalar_MulAdd.p2 k 3 [x0, x1, x2, x3] [y0, y1, y2, y3] [v0, v1, v2, v3, v4, v5, v6, v7] 0 0 = some (q, [v0, v1, v2, r0, r1, r2, r3, v7]) := by
  obtain ⟨k, rfl⟩ := Nat.exists_eq_add_of_le' hk
  have hz : (0 : Int) ≤ 0 ∧ (0 : Int) < 18446744073709551616 := by decide
  obtain ⟨r0, q0, br0, bq0, e0, s0⟩ := mul_step (k + 4) 3 0 3 (by decide) (by decide) rfl (r5 := [x0, x1, x2, x3]) (r6 := [y0, y1, y2, y3]) (w := [v0, v1, v2, v3, v4, v5, v6, v7]) (c := 0) (x := x3) (y := y0) (v := v3) rfl rfl rfl rfl hx hy0 hv3 hz
  obtain ⟨r1, q1, br1, bq1, e1, s1⟩ := mul_step (k + 3) 3 1 4 (by decide) (by decide) rfl (r5 := [x0, x1, x2, x3]) (r6 := [y0, y1, y2, y3]) (w := [v0, v1, v2, r0, v4, v5, v6, v7]) (c := q0) (x := x3) (y := y1) (v := v4) rfl rfl rfl rfl hx hy1 hv4 bq0
  obtain ⟨r2, q2, br2, bq2, e2, s2⟩ := mul_step (k + 2) 3 2 5 (by decide) (by decide) rfl (r5 := [x0, x1, x2, x3]) (r6 := [y0, y1, y2, y3]) (w := [v0, v1, v2, r0, r1, v5, v6, v7]) (c := q1) (x := x3) (y := y2) (v := v5) rfl rfl rfl rfl hx hy2 hv5 bq1
  obtain ⟨r3, q3, br3, bq3, e3, s3⟩ := mul_step (k + 1) 3 3 6 (by decide) (by decide) rfl (r5 := [x0, x1, x2, x3]) (r6 := [y0, y1, y2, y3]) (w := [v0, v1, v2, r0, r1, r2, v6, v7]) (c := q2) (x := x3) (y := y3) (v := v6) rfl rfl rfl rfl hx hy3 hv6 bq2
  refine ⟨r0, r1, r2, r3, q3, br0, br1, br2, br3, bq3, ?_, s0.trans (s1.trans (s2.trans (s3.trans rfl)))⟩
  have em : x3 * (y0 + 18446744073709551616 * y1 + 340282366920938463463374607431768211456 * y2 + 6277101735386680763835789423207666416102355444464034512896 * y3) = x3 * y0 + 18446744073709551616 * (x3 * y1) + 340282366920938463463374607431768211456 * (x3 * y2) + 6277101735386680763835789423207666416102355444464034512896 * (x3 * y3) := by grind
  rw [em]
  omega
end Go.Proofs.YtpnkcajlgaokiaaDoor

namespace Go.Proofs.YtpnkcajlgaokiaaDoor
open Go Go.Gx
theorem outer_step (k i : Nat) (hi : i < 4) {r5 r6 w w' w'' : List Int} {q ii : Int} (e : scalar_MulAdd.p2 k (i : Int) r5 r6 w 0 0 = some (q, w')) (es : w'.set (i + 4) q = w'') (ei : (i : Int) + 1 = ii) :
    scalar_MulAdd.p1 (k + 1) r5 r6 w (i : Int) = scalar_MulAdd.p1 k r5 r6 w'' ii := by
  subst es ei
  rw [scalar_MulAdd.p1, decide_eq_true (show (i : Int) < 4 by omega)]
  refine sbd e ?_
  show chk _ _ = _
  rw [wrap_i64_of (x := (i : Int) + 4) (by omega) (by omega), chk_pos ⟨by omega, by omega⟩, show ((i : Int) + 4).toNat = i + 4 by omega]
  exact lt_rw (wrap_i64_of (by omega) (by omega)) rfl
theorem wide_loop (d k : Nat) (hk : d + 1 ≤ k) (a : List Int) (hd : d ≤ 64) :
    scalar_MulAdd.p3 k a (fil (wb a) 64 (64 - d)) ((64 - d : Nat) : Int) = some ((List.range 64).map (wb a)) := by
  induction d generalizing k with
  | zero =>
    obtain ⟨k, rfl⟩ := Nat.exists_eq_add_of_le' (show 1 ≤ k by omega)
    rw [Nat.sub_zero, fil_all]; rfl
  | succ d ih =>
    obtain ⟨k, rfl⟩ := Nat.exists_eq_add_of_le' (show 1 ≤ k by omega)
    obtain ⟨i, ei⟩ : ∃ i, i = 64 - (d + 1) := ⟨_, rfl⟩
    have hi : i < 64 := by omega
    rw [← ei]
    rw [scalar_MulAdd.p3, decide_eq_true (show (i : Int) < 64 by omega)]
    simp only [br, lt]
    rw [show Int.tdiv (i : Int) 8 = ((i / 8 : Nat) : Int) from rfl, show Int.tmod (i : Int) 8 = ((i % 8 : Nat) : Int) from rfl]
    rw [wrap_i64_of (x := ((i / 8 : Nat) : Int)) (by omega) (by omega), wrap_i64_of (x := 8 * ((i % 8 : Nat) : Int)) (by omega) (by omega), wrap_i64_of (x := (i : Int) + 1) (by omega) (by omega)]
    rw [chk_pos ⟨by omega, by omega⟩, chk_pos (by omega), chk_pos ⟨by omega, by omega⟩]
    rw [show (((i / 8 : Nat) : Int)).toNat = i / 8 by omega, show (8 * ((i % 8 : Nat) : Int)).toNat = 8 * (i % 8) by omega, show (i : Int).toNat = i by omega]
    rw [show min (8 * (i % 8)) IntKind.u64.bits = 8 * (i % 8) from Nat.min_eq_left (show 8 * (i % 8) ≤ 64 by omega), fd _ _ (Int.le_of_lt (Int.pow_pos (by decide))), IntKind.wrap_u8]
    rw [show a.getD (i / 8) 0 / 2 ^ (8 * (i % 8)) % 256 = wb a i from rfl, fil_set _ _ _ hi, show (i : Int) + 1 = ((i + 1 : Nat) : Int) by omega, show i + 1 = 64 - d by omega]
    exact ih k (by omega) (by omega)
theorem wide_spec (k : Nat) (hk : 10 ≤ k) {x y : List Int} {m n : Int} (hx : Num x m) (hy : Num y n) :
    ∃ w, scalar_MulAdd.p1 k x y (List.replicate 8 0) 0 = some w ∧ w.length = 8 ∧ W w ∧ V w = m * n := by
  obtain ⟨k, rfl⟩ := Nat.exists_eq_add_of_le' hk
  obtain ⟨x0, x1, x2, x3, rfl, c0, c1, c2, c3, e⟩ := hx.cases
  obtain ⟨y0, y1, y2, y3, rfl, d0, d1, d2, d3, e'⟩ := hy.cases
  have hz : (0 : Int) ≤ 0 ∧ (0 : Int) < 18446744073709551616 := by decide
  obtain ⟨r0, r1, r2, r3, r4, b0, b1, b2, b3, b4, g0, s0⟩ := row0 (k + 9) (by omega) (x0 := x0) (x1 := x1) (x2 := x2) (x3 := x3) (v0 := 0) (v1 := 0) (v2 := 0) (v3 := 0) (v4 := 0) (v5 := 0) (v6 := 0) (v7 := 0) c0 d0 d1 d2 d3 hz hz hz hz
  obtain ⟨t1, t2, t3, t4, t5, f1, f2, f3, f4, f5, g1, s1⟩ := row1 (k + 8) (by omega) (x0 := x0) (x1 := x1) (x2 := x2) (x3 := x3) (v0 := r0) (v5 := 0) (v6 := 0) (v7 := 0) c1 d0 d1 d2 d3 b1 b2 b3 b4
  obtain ⟨u2, u3, u4, u5, u6, h2, h3, h4, h5, h6, g2, s2⟩ := row2 (k + 7) (by omega) (x0 := x0) (x1 := x1) (x2 := x2) (x3 := x3) (v0 := r0) (v1 := t1) (v6 := 0) (v7 := 0) c2 d0 d1 d2 d3 f2 f3 f4 f5
  obtain ⟨z3, z4, z5, z6, z7, i3, i4, i5, i6, i7, g3, s3⟩ := row3 (k + 6) (by omega) (x0 := x0) (x1 := x1) (x2 := x2) (x3 := x3) (v0 := r0) (v1 := t1) (v2 := u2) (v7 := 0) c3 d0 d1 d2 d3 h3 h4 h5 h6
  have o0 := outer_step (k + 9) 0 (by decide) s0 rfl rfl
  have o1 := outer_step (k + 8) 1 (by decide) s1 rfl rfl
  have o2 := outer_step (k + 7) 2 (by decide) s2 rfl rfl
  have o3 := outer_step (k + 6) 3 (by decide) s3 rfl rfl
  refine ⟨[r0, t1, u2, z3, z4, z5, z6, z7], o0.trans (o1.trans (o2.trans (o3.trans rfl))), rfl, ?_, ?_⟩
  · simp only [W_cons]; exact ⟨b0, f1, h2, i3, i4, i5, i6, i7, W_nil⟩
  · rw [← e'] at g0 g1 g2 g3
    have em : m * n = x0 * n + 18446744073709551616 * (x1 * n) + 340282366920938463463374607431768211456 * (x2 * n) + 6277101735386680763835789423207666416102355444464034512896 * (x3 * n) := by rw [e]; grind
    rw [em]
    simp only [V]
    clear em e e' o0 o1 o2 o3 s0 s1 s2 s3
    generalize x0 * n = p0 at *
    generalize x1 * n = p1 at *
    generalize x2 * n = p2 at *
    generalize x3 * n = p3 at *
    omega
theorem mulAdd_law (k : Nat) (hk : 200 ≤ k) {a b c : List Int} (ha : By a 32) (hb : By b 32) (hc : By c 32) : scalar_MulAdd.f k a b c = some (toB 32 ((B a * B b + B c) % L)) := by
  obtain ⟨x, ex, nx⟩ := red k (by omega) 4 (by decide) ha
  obtain ⟨y, ey, ny⟩ := red k (by omega) 4 (by decide) hb
  obtain ⟨z, ez, nz⟩ := red k (by omega) 4 (by decide) hc
  obtain ⟨w, ew, lw, ww, vw⟩ := wide_spec k (by omega) nx ny
  have e3 := wide_loop 64 k (by omega) w (by decide)
  rw [Nat.sub_self, fil_zero] at e3
  have hb64 : By ((List.range 64).map (wb w)) (8 * 8) := ⟨by simp, wb_u8 w 64⟩
  have hv : B ((List.range 64).map (wb w)) = (B a % L) * (B b % L) := by have := wb_bytes w ww; rw [lw, vw] at this; exact this
  obtain ⟨p, ep, np⟩ := red k (by omega) 8 (by decide) hb64
  rw [hv, ← Int.mul_emod] at np
  obtain ⟨s, es, ns⟩ := add_spec k (by omega) np nz
  have h1 := mL (B a * B b)
  have h2 := mL (B c)
  rw [Int.emod_eq_of_lt (by omega) (by omega)] at ns
  obtain ⟨r, er, nr⟩ := less_spec k (by omega) ns (by omega)
  rw [show (B a * B b % L + B c % L) % 7237005577332262213973186563042994240857116359379907606001950938285454250989 = (B a * B b + B c) % L from (Int.add_emod _ _ _).symm] at nr
  exact sbd ex (sbd ey (sbd ew (sbd e3 (sbd ep (sbd ez (sbd es (sbd er (sbd (bytes_spec k (by omega) nr) rfl))))))))
theorem awake_law (k : Nat) (hk : 200 ≤ k) : postilionlaw05_awake.f k = some true := by
  have b : ∀ v : Int, IntKind.u8.has v → By ((List.replicate 32 (0 : Int)).set 0 v) 32 := fun v hv => ⟨by simp, fun x hx => by
    rcases List.mem_or_eq_of_mem_set hx with h | h
    · rw [List.eq_of_mem_replicate h]; exact (has_u8 _).mpr (by decide)
    · rw [h]; exact hv⟩
  have h1 := mulAdd_law k hk (b 2 ((has_u8 _).mpr (by decide))) (b 3 ((has_u8 _).mpr (by decide))) (b 4 ((has_u8 _).mpr (by decide)))
  have h2 := canonical_law k (by omega) (b 1 ((has_u8 _).mpr (by decide)))
  unfold postilionlaw05_awake.f postilionlaw05_awake.p1
  refine sbd (a := true) (sbd h1 ?_) rfl
  rw [show (toB 32 ((B ((List.replicate 32 (0 : Int)).set 0 2) * B ((List.replicate 32 (0 : Int)).set 0 3) + B ((List.replicate 32 (0 : Int)).set 0 4)) % L) == (List.replicate 32 (0 : Int)).set 0 10) = true by decide]
  refine sbd h2 ?_
  rw [show decide (B ((List.replicate 32 (0 : Int)).set 0 1) < L) = true by decide]
theorem By.zero : By (List.replicate 32 (0 : Int)) 32 := ⟨by simp, fun x hx => by rw [List.eq_of_mem_replicate hx]; exact (has_u8 _).mpr (by decide)⟩
theorem B_zero : B (List.replicate 32 (0 : Int)) = 0 := by decide
theorem B_small (n : Int) : B (toB 32 (n % L)) = n % L := by
  have := mL n
  rw [B_toB, Int.emod_eq_of_lt this.1 (Int.lt_trans this.2 (by decide))]
end Go.Proofs.YtpnkcajlgaokiaaDoor

namespace Go.Proofs.YtpnkcajlgaokiaaDoor
open Go Go.Gx
theorem ne_of_mod {a : List Int} (ha : By a 32) : (toB 32 (B a % L) == a) = decide (B a < L) := by
  by_cases hl : B a < L
  · rw [Int.emod_eq_of_lt (B_nonneg ha) hl, ← ha.1, toB_B a ha.2, decide_eq_true hl]; exact beq_self_eq_true _
  · rw [decide_eq_false hl, beq_eq_false_iff_ne]
    intro e
    have := congrArg B e
    rw [B_small] at this
    have h1 := mL (B a)
    rw [this] at h1
    exact hl h1.2
theorem sbf {α : Type} {c : Bool} {x y z : Option α} (hc : c = false) (h : y = z) : br c x y = z := by subst hc; exact h
theorem sbt {α : Type} {c : Bool} {x y z : Option α} (hc : c = true) (h : x = z) : br c x y = z := by subst hc; exact h
theorem som {α : Type} {a b : α} (h : a = b) : some a = some b := by rw [h]
theorem set_app {l : List Int} {i : Nat} {v : Int} (h : l.length = i) {n : Nat} (hn : i < n) : (l ++ List.replicate (n - i) 0).set i v = (l ++ [v]) ++ List.replicate (n - (i + 1)) 0 := by
  rw [List.set_append_right _ _ (by omega), h, Nat.sub_self, show n - i = (n - (i + 1)) + 1 by omega, List.replicate_succ]
  simp
end Go.Proofs.YtpnkcajlgaokiaaDoor
namespace Go.Proofs.YtpnkcajlgaokiaaDoor.scalarReduces
open Go Go.Gx
theorem join_loop (d k : Nat) (hk : d + 1 ≤ k) {a b : List Int} (ha : By a 32) (hb : By b 32) (hd : d ≤ 32) :
    postilionlaw05_ScalarReduces.p1 k a b ((a.take (32 - d) ++ List.replicate (32 - (32 - d)) 0) ++ (b.take (32 - d) ++ List.replicate (32 - (32 - d)) 0)) ((32 - d : Nat) : Int) = some (a ++ b) := by
  induction d generalizing k with
  | zero =>
    obtain ⟨k, rfl⟩ := Nat.exists_eq_add_of_le' (show 1 ≤ k by omega)
    rw [Nat.sub_zero, List.take_of_length_le (by rw [ha.1]; decide), List.take_of_length_le (by rw [hb.1]; decide), Nat.sub_self]
    simp only [List.replicate_zero, List.append_nil]
    rfl
  | succ d ih =>
    obtain ⟨k, rfl⟩ := Nat.exists_eq_add_of_le' (show 1 ≤ k by omega)
    obtain ⟨i, ei⟩ : ∃ i, i = 32 - (d + 1) := ⟨_, rfl⟩
    have hi : i < 32 := by omega
    rw [← ei, postilionlaw05_ScalarReduces.p1, decide_eq_true (show (i : Int) < 32 by omega)]
    simp only [br, lt]
    rw [wrap_i64_of (x := 32 + (i : Int)) (by omega) (by omega), wrap_i64_of (x := (i : Int) + 1) (by omega) (by omega)]
    rw [chk_pos ⟨by omega, by omega⟩, chk_pos ⟨by omega, by omega⟩, chk_pos ⟨by omega, by omega⟩, chk_pos ⟨by omega, by omega⟩]
    rw [show (i : Int).toNat = i by omega, show (32 + (i : Int)).toNat = 32 + i by omega, show (i : Int) + 1 = ((i + 1 : Nat) : Int) by omega]
    have la : (a.take i).length = i := by rw [List.length_take, ha.1]; omega
    have lb : (b.take i).length = i := by rw [List.length_take, hb.1]; omega
    have ga : a.getD i 0 = a[i]'(by rw [ha.1]; exact hi) := by rw [List.getD_eq_getElem?_getD, List.getElem?_eq_getElem]; rfl
    have gb : b.getD i 0 = b[i]'(by rw [hb.1]; exact hi) := by rw [List.getD_eq_getElem?_getD, List.getElem?_eq_getElem]; rfl
    have h32 : (a.take i ++ List.replicate (32 - i) 0).length = 32 := by rw [List.length_append, la, List.length_replicate]; omega
    rw [List.set_append_left _ _ (by rw [h32]; omega), set_app la hi]
    have h32' : (a.take i ++ [a.getD i 0] ++ List.replicate (32 - (i + 1)) 0).length = 32 := by simp [la]; omega
    rw [List.set_append_right _ _ (by rw [h32']; omega), h32', show 32 + i - 32 = i by omega, set_app lb hi]
    rw [ga, gb, List.take_append_getElem (by rw [ha.1]; exact hi), List.take_append_getElem (by rw [hb.1]; exact hi), show i + 1 = 32 - d by omega]
    exact ih k (by omega) (by omega)
theorem join_eq (P N x y : Int) : toB 32 ((x + P * y) % N) = toB 32 ((y * (P % N) + x) % N) := by
  have em := emul P N x y
  rw [Int.mul_comm P y, Int.add_comm (y * (P % N)) x, em]
theorem pure_law (a0 : List Int) (la0 : a0.length = 32) (w0 : ∀ x ∈ a0, IntKind.u8.has x) (a1 : List Int) (la1 : a1.length = 32) (w1 : ∀ x ∈ a1, IntKind.u8.has x) : ∃ k, postilionlaw05_ScalarReduces.f k a0 a1 = some true := by
  refine ⟨1000, ?_⟩
  generalize hk' : 1000 = k
  have hk : 200 ≤ k := by omega
  have ha : By a0 32 := ⟨la0, w0⟩
  have hb : By a1 32 := ⟨la1, w1⟩
  have hj := join_loop 32 k (by omega) ha hb (by decide)
  rw [Nat.sub_self, List.take_zero, List.take_zero, List.nil_append, List.replicate_append_replicate] at hj
  have hab : By (a0 ++ a1) 64 := ⟨by rw [List.length_append, la0, la1], fun x hx => (List.mem_append.mp hx).elim (w0 x) (w1 x)⟩
  have hs : By ((List.replicate 64 (0 : Int)).set 32 1) 64 := ⟨by simp, fun x hx => by
    rcases List.mem_or_eq_of_mem_set hx with h | h
    · rw [List.eq_of_mem_replicate h]; exact (has_u8 _).mpr (by decide)
    · rw [h]; exact (has_u8 _).mpr (by decide)⟩
  have r1 := reduce_law k (by omega) hab
  have r2 := reduce_law k (by omega) hs
  have r3 := mulAdd_law k (by omega) hb (By.toB 32 (B ((List.replicate 64 (0 : Int)).set 32 1) % L)) ha
  unfold postilionlaw05_ScalarReduces.f
  refine sbd (awake_law k hk) (sbf rfl ?_)
  refine sbd hj (sbd r1 (sbd r2 (sbd r3 (som (beq_iff_eq.mpr ?_)))))
  rw [B_small, B_app, la0]
  have e1 : B ((List.replicate 64 (0 : Int)).set 32 1) = 115792089237316195423570985008687907853269984665640564039457584007913129639936 := by simp [List.replicate, B]
  have e2 : (256 : Int) ^ 32 = 115792089237316195423570985008687907853269984665640564039457584007913129639936 := by decide
  rw [e1, e2]
  exact join_eq _ _ _ _
end Go.Proofs.YtpnkcajlgaokiaaDoor.scalarReduces

namespace Go.Proofs.YtpnkcajlgaokiaaDoor
open Go Go.Gx
theorem am1 (N x y : Int) : (x % N + y) % N = (x + y) % N := by rw [Int.emod_add_emod]
theorem am2 (N x y : Int) : (x + y % N) % N = (x + y) % N := by rw [Int.add_emod_emod]
theorem mm2 (N x y : Int) : (x * (y % N)) % N = (x * y) % N := by rw [Int.mul_emod, Int.emod_emod, ← Int.mul_emod]
end Go.Proofs.YtpnkcajlgaokiaaDoor
namespace Go.Proofs.YtpnkcajlgaokiaaDoor.scalarRing
open Go Go.Gx
theorem part1 (k : Nat) (hk : 200 ≤ k) {a b c : List Int} (ha : By a 32) (hb : By b 32) (hc : By c 32) : postilionlaw05_ScalarRing.p1 k a b c = some false := by
  have b1 := By.toB 32 ((B a + B b) % L)
  have b2 := By.toB 32 ((B b + B c) % L)
  have b3 := By.toB 32 ((-B a) % L)
  have e1 := add_law k (by omega) ha hb
  have e2 := add_law k (by omega) hb ha
  have e3 := add_law k (by omega) b1 hc
  have e4 := add_law k (by omega) hb hc
  have e5 := add_law k (by omega) ha b2
  have e6 := neg_law k (by omega) ha
  have e7 := add_law k (by omega) ha b3
  rw [B_small, am1] at e3
  rw [B_small, am2] at e5
  rw [B_small, am2] at e7
  rw [Int.add_comm (B b)] at e2
  rw [← Int.add_assoc] at e5
  rw [show B a + -B a = 0 by omega, show toB 32 (0 % L) = List.replicate 32 0 by decide] at e7
  unfold postilionlaw05_ScalarRing.p1
  refine sbd e1 (sbd e2 (sbf (by rw [beq_self_eq_true]; rfl) ?_))
  refine sbd e1 (sbd e3 (sbd e4 (sbd e5 (sbf (by rw [beq_self_eq_true]; rfl) ?_))))
  exact sbd e6 (sbd e7 rfl)
theorem part2 (k : Nat) (hk : 200 ≤ k) {a b c : List Int} (ha : By a 32) (hb : By b 32) (hc : By c 32) : postilionlaw05_ScalarRing.p2 k a b c = some true := by
  have e1 := mulAdd_law k (by omega) ha hb hc
  have e2 := mulAdd_law k (by omega) hb ha By.zero
  have e3 := add_law k (by omega) (By.toB 32 ((B b * B a + B (List.replicate 32 0)) % L)) hc
  have e4 := add_law k (by omega) hb hc
  have e5 := mulAdd_law k (by omega) ha (By.toB 32 ((B b + B c) % L)) By.zero
  have e6 := mulAdd_law k (by omega) ha hb By.zero
  have e7 := mulAdd_law k (by omega) ha hc By.zero
  have e8 := add_law k (by omega) (By.toB 32 ((B a * B b + B (List.replicate 32 0)) % L)) (By.toB 32 ((B a * B c + B (List.replicate 32 0)) % L))
  rw [B_small, am1] at e3
  rw [B_small] at e5
  rw [B_small, B_small, am1, am2] at e8
  unfold postilionlaw05_ScalarRing.p2
  refine sbd e1 (sbd e2 (sbd e3 (sbt ?_ ?_)))
  · rw [B_zero, Int.add_zero, Int.mul_comm (B b)]; exact beq_self_eq_true _
  refine sbd e4 (sbd e5 (sbd e6 (sbd e7 (sbd e8 (som ?_)))))
  rw [B_zero, Int.add_zero, Int.add_zero, Int.add_zero, mm2, Int.mul_add]
  exact beq_self_eq_true _
theorem pure_law (a0 : List Int) (la0 : a0.length = 32) (w0 : ∀ x ∈ a0, IntKind.u8.has x) (a1 : List Int) (la1 : a1.length = 32) (w1 : ∀ x ∈ a1, IntKind.u8.has x) (a2 : List Int) (la2 : a2.length = 32) (w2 : ∀ x ∈ a2, IntKind.u8.has x) : ∃ k, postilionlaw05_ScalarRing.f k a0 a1 a2 = some true := by
  refine ⟨1000, ?_⟩
  generalize hk' : 1000 = k
  have hk : 200 ≤ k := by omega
  unfold postilionlaw05_ScalarRing.f
  exact sbd (awake_law k hk) (sbf rfl (sbd (part1 k hk ⟨la0, w0⟩ ⟨la1, w1⟩ ⟨la2, w2⟩) (sbf rfl (sbd (part2 k hk ⟨la0, w0⟩ ⟨la1, w1⟩ ⟨la2, w2⟩) rfl))))
end Go.Proofs.YtpnkcajlgaokiaaDoor.scalarRing
namespace Go.Proofs.YtpnkcajlgaokiaaDoor.scalarCanonical
open Go Go.Gx
theorem small (k : Nat) (hk : 200 ≤ k) (n : Int) : scalar_Canonical.f k (toB 32 (n % L)) = some true := by
  have := canonical_law k (by omega) (By.toB 32 (n % L))
  rwa [B_small, decide_eq_true (show n % L < L from (mL n).2)] at this
theorem pure_law (a0 : List Int) (la0 : a0.length = 32) (w0 : ∀ x ∈ a0, IntKind.u8.has x) (a1 : List Int) (la1 : a1.length = 32) (w1 : ∀ x ∈ a1, IntKind.u8.has x) : ∃ k, postilionlaw05_ScalarCanonical.f k a0 a1 = some true := by
  refine ⟨1000, ?_⟩
  generalize hk' : 1000 = k
  have hk : 200 ≤ k := by omega
  have ha : By a0 32 := ⟨la0, w0⟩
  have hb : By a1 32 := ⟨la1, w1⟩
  have e0 := add_law k (by omega) ha By.zero
  have e1 := add_law k (by omega) ha hb
  have e2 := neg_law k (by omega) ha
  have e3 := mulAdd_law k (by omega) ha hb ha
  have e4 := canonical_law k (by omega) ha
  rw [B_zero, Int.add_zero] at e0
  unfold postilionlaw05_ScalarCanonical.f
  refine sbd (awake_law k hk) (sbf rfl (sbd e0 (sbd (a := true) ?_ rfl)))
  unfold postilionlaw05_ScalarCanonical.p1
  refine sbd e1 (sbd (small k hk _) (sbt rfl (sbd e2 (sbd (small k hk _) (sbt rfl (sbd e3 (sbd (small k hk _) (sbt rfl (sbd e4 (som ?_))))))))))
  rw [ne_of_mod ha]
  exact beq_self_eq_true _
end Go.Proofs.YtpnkcajlgaokiaaDoor.scalarCanonical

