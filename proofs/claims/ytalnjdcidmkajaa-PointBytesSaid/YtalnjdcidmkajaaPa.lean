/-
  Plain laws of the field.
  Conditions: none.
-/
import Derived.Test.YtalnjdcidmkajaaGp
set_option linter.unusedVariables false
namespace Go.Gx
theorem sbd {α β : Type} {x : Option α} {a : α} {f : α → Option β} {y : Option β} (h : x = some a) (hf : f a = y) : bd x f = y := by rw [h]; exact hf
theorem sbf {α : Type} {c : Bool} {x y z : Option α} (hc : c = false) (h : y = z) : br c x y = z := by subst hc; exact h
theorem sbt {α : Type} {c : Bool} {x y z : Option α} (hc : c = true) (h : x = z) : br c x y = z := by subst hc; exact h
theorem som {α : Type} {a b : α} (h : a = b) : some a = some b := by rw [h]
theorem lt_rw {α : Type} {x y : Int} {f : Int → Option α} {z : Option α} (h : x = y) (hf : f y = z) : lt x f = z := by subst h; exact hf
theorem lt_rwb {α : Type} {x y : Bool} {f : Bool → Option α} {z : Option α} (h : x = y) (hf : f y = z) : lt x f = z := by subst h; exact hf
theorem lt_rwl {α : Type} {x y : List Int} {f : List Int → Option α} {z : Option α} (h : x = y) (hf : f y = z) : lt x f = z := by subst h; exact hf
theorem fd (a b : Int) (h : 0 ≤ b) : Int.fdiv a b = a / b := Int.fdiv_eq_ediv_of_nonneg a h
theorem pb {a b P Q : Int} (ha : 0 ≤ a ∧ a ≤ P) (hb : 0 ≤ b ∧ b ≤ Q) : 0 ≤ a * b ∧ a * b ≤ P * Q :=
  ⟨Int.mul_nonneg ha.1 hb.1, Int.mul_le_mul ha.2 hb.2 hb.1 (Int.le_trans ha.1 ha.2)⟩
theorem and32 (a : Int) (h : 0 ≤ a ∧ a < 18446744073709551616) : bits .and .u64 a 4294967295 = a % 4294967296 := and_u64 32 (by decide) a h.1 h.2
def By (a : List Int) (n : Nat) : Prop := a.length = n ∧ ∀ x ∈ a, IntKind.u8.has x
theorem By.toB (n : Nat) (m : Int) : By (toB n m) n := ⟨toB_length n m, toB_u8 n m⟩
theorem B_nonneg {a : List Int} {n : Nat} (h : By a n) : 0 ≤ B a := (B_bound a h.2).1
theorem B_lt {a : List Int} (h : By a 32) : B a < 115792089237316195423570985008687907853269984665640564039457584007913129639936 := by
  have := (B_bound a h.2).2
  rw [h.1] at this
  exact this
theorem By.zero (n : Nat) : By (List.replicate n (0 : Int)) n := ⟨by simp, fun x hx => by rw [List.eq_of_mem_replicate hx]; exact (has_u8 _).mpr (by decide)⟩
theorem By.set {a : List Int} {n : Nat} (h : By a n) (i : Nat) {v : Int} (hv : 0 ≤ v ∧ v < 256) : By (a.set i v) n := ⟨by rw [List.length_set]; exact h.1, fun x hx => by
  rcases List.mem_or_eq_of_mem_set hx with h' | h'
  · exact h.2 x h'
  · rw [h']; exact (has_u8 _).mpr hv⟩
theorem emod_of {s P r q : Int} (h : s = r + P * q) (h0 : 0 ≤ r) (h1 : r < P) : s % P = r := by
  rw [h, Int.add_mul_emod_self_left, Int.emod_eq_of_lt h0 h1]
end Go.Gx

namespace Go.Proofs.Ytalnjdcidmkajaa
open Go Go.Gx
theorem mul_spec {a b : Int} (ha : 0 ≤ a ∧ a < 18446744073709551616) (hb : 0 ≤ b ∧ b < 18446744073709551616) :
    ∃ hi lo, math_bits_Mul64.f a b = some (hi, lo) ∧ (0 ≤ hi ∧ hi < 18446744073709551616) ∧ (0 ≤ lo ∧ lo < 18446744073709551616) ∧ a * b = lo + 18446744073709551616 * hi := by
  obtain ⟨x1, ex1⟩ : ∃ x, x = a % 4294967296 := ⟨_, rfl⟩
  obtain ⟨x2, ex2⟩ : ∃ x, x = a / 4294967296 := ⟨_, rfl⟩
  obtain ⟨x3, ex3⟩ : ∃ x, x = b % 4294967296 := ⟨_, rfl⟩
  obtain ⟨x4, ex4⟩ : ∃ x, x = b / 4294967296 := ⟨_, rfl⟩
  have ea : a = x1 + 4294967296 * x2 := by omega
  have eb : b = x3 + 4294967296 * x4 := by omega
  have h1 : 0 ≤ x1 ∧ x1 ≤ 4294967295 := by omega
  have h2 : 0 ≤ x2 ∧ x2 ≤ 4294967295 := by omega
  have h3 : 0 ≤ x3 ∧ x3 ≤ 4294967295 := by omega
  have h4 : 0 ≤ x4 ∧ x4 ≤ 4294967295 := by omega
  have p13 := pb h1 h3
  have p23 := pb h2 h3
  have p14 := pb h1 h4
  have p24 := pb h2 h4
  have ep : a * b = x1 * x3 + 4294967296 * (x2 * x3 + x1 * x4) + 18446744073709551616 * (x2 * x4) := by
    rw [ea, eb]; grind
  unfold math_bits_Mul64.f
  obtain ⟨x6, ex6⟩ : ∃ x, x = x2 * x3 + x1 * x3 / 4294967296 := ⟨_, rfl⟩
  obtain ⟨x9, ex9⟩ : ∃ x, x = x6 % 4294967296 + x1 * x4 := ⟨_, rfl⟩
  have hlo : IntKind.u64.wrap (a * b) = (a * b) % 18446744073709551616 := wu64 _
  have w5 : IntKind.u64.wrap (x1 * x3) = x1 * x3 := wrap_u64_of p13.1 (by omega)
  have w23 : IntKind.u64.wrap (x2 * x3) = x2 * x3 := wrap_u64_of p23.1 (by omega)
  have w14 : IntKind.u64.wrap (x1 * x4) = x1 * x4 := wrap_u64_of p14.1 (by omega)
  have w24 : IntKind.u64.wrap (x2 * x4) = x2 * x4 := wrap_u64_of p24.1 (by omega)
  refine ⟨x2 * x4 + x6 / 4294967296 + x9 / 4294967296, (a * b) % 18446744073709551616, ?_, by omega, by omega, by omega⟩
  have h32 : ∀ x : Int, Int.fdiv x (2 ^ 32) = x / 4294967296 := fun x => fd x _ (by decide)
  refine lt_rw ((and32 a ha).trans ex1.symm) ?_
  refine lt_rw ((h32 a).trans ex2.symm) ?_
  refine lt_rw ((and32 b hb).trans ex3.symm) ?_
  refine lt_rw ((h32 b).trans ex4.symm) ?_
  refine lt_rw w5 ?_
  refine lt_rw (y := x6) (by rw [w23, h32, wrap_u64_of (by omega) (by omega), ex6]) ?_
  refine lt_rw (and32 x6 (by omega)) ?_
  refine lt_rw (h32 x6) ?_
  refine lt_rw (y := x9) (by rw [w14, wrap_u64_of (by omega) (by omega), ex9]) ?_
  refine lt_rw (y := x2 * x4 + x6 / 4294967296 + x9 / 4294967296) (by rw [w24, h32, wrap_u64_of (x := x2 * x4 + x6 / 4294967296) (by omega) (by omega), wrap_u64_of (by omega) (by omega)]) ?_
  refine lt_rw hlo ?_
  rfl
-- wide sums
theorem add_spec {hi lo a b : Int} (hh : 0 ≤ hi) (hl : 0 ≤ lo ∧ lo < 18446744073709551616) (ha : 0 ≤ a ∧ a < 18446744073709551616) (hb : 0 ≤ b ∧ b < 18446744073709551616)
    (hs : lo + 18446744073709551616 * hi + a * b < 340282366920938463463374607431768211456) :
    ∃ hi' lo', field_wide_add.f [hi, lo] a b = some [hi', lo'] ∧ 0 ≤ hi' ∧ (0 ≤ lo' ∧ lo' < 18446744073709551616) ∧ lo' + 18446744073709551616 * hi' = lo + 18446744073709551616 * hi + a * b := by
  obtain ⟨h, l, e, bh, bl, em⟩ := mul_spec ha hb
  rw [em] at hs ⊢
  refine ⟨hi + h + (l + lo) / 18446744073709551616, (l + lo) % 18446744073709551616, ?_, by omega, by omega, by omega⟩
  refine sbd e (lt_rw rfl (lt_rw rfl ?_))
  show chk (0 ≤ l ∧ 0 ≤ lo ∧ 0 ≤ (0 : Int) ∧ (0 : Int) ≤ 1) _ = _
  rw [chk_pos ⟨bl.1, hl.1, by decide, by decide⟩]
  refine lt_rw (y := (l + lo) % 18446744073709551616) (by show (l + lo + 0) % _ = _; rw [Int.add_zero]) ?_
  refine lt_rw (y := (l + lo) / 18446744073709551616) (by show (l + lo + 0) / _ = _; rw [Int.add_zero]) ?_
  show some [IntKind.u64.wrap (IntKind.u64.wrap (hi + h) + (l + lo) / 18446744073709551616), _] = _
  rw [wrap_u64_of (x := hi + h) (by omega) (by omega), wrap_u64_of (by omega) (by omega)]
theorem shifted_spec {hi lo : Int} (hh : 0 ≤ hi ∧ hi < 2251799813685248) (hl : 0 ≤ lo ∧ lo < 18446744073709551616) :
    field_wide_shifted.f [hi, lo] = some ((lo + 18446744073709551616 * hi) / 2251799813685248) := by
  refine lt_rw (y := (lo + 18446744073709551616 * hi) / 2251799813685248) ?_ rfl
  show bits .or .u64 (IntKind.u64.wrap (hi * 2 ^ 13)) (Int.fdiv lo (2 ^ 51)) = _
  rw [fd _ _ (by decide), wrap_u64_of (x := hi * 2 ^ 13) (by omega) (by omega), or_u64 13 _ _ (by omega) (by omega) (by omega) (by omega) (by omega) (by omega)]
  omega
theorem and51 (x : Int) (h : 0 ≤ x ∧ x < 18446744073709551616) : bits .and .u64 x 2251799813685247 = x % 2251799813685248 := and_u64 51 (by decide) x h.1 h.2
theorem carried_eq {x0 x1 x2 x3 x4 : Int} (h0 : 0 ≤ x0 ∧ x0 < 18446744073709551616) (h1 : 0 ≤ x1 ∧ x1 < 18446744073709551616) (h2 : 0 ≤ x2 ∧ x2 < 18446744073709551616) (h3 : 0 ≤ x3 ∧ x3 < 18446744073709551616) (h4 : 0 ≤ x4 ∧ x4 < 18446744073709551616) :
    field_Element_carried.f [x0, x1, x2, x3, x4] = some [x0 % 2251799813685248 + 19 * (x4 / 2251799813685248), x1 % 2251799813685248 + x0 / 2251799813685248, x2 % 2251799813685248 + x1 / 2251799813685248, x3 % 2251799813685248 + x2 / 2251799813685248, x4 % 2251799813685248 + x3 / 2251799813685248] := by
  show some [IntKind.u64.wrap (bits .and .u64 x0 2251799813685247 + IntKind.u64.wrap (19 * Int.fdiv x4 (2 ^ 51))), IntKind.u64.wrap (bits .and .u64 x1 2251799813685247 + Int.fdiv x0 (2 ^ 51)), IntKind.u64.wrap (bits .and .u64 x2 2251799813685247 + Int.fdiv x1 (2 ^ 51)), IntKind.u64.wrap (bits .and .u64 x3 2251799813685247 + Int.fdiv x2 (2 ^ 51)), IntKind.u64.wrap (bits .and .u64 x4 2251799813685247 + Int.fdiv x3 (2 ^ 51))] = _
  have f : ∀ x : Int, Int.fdiv x (2 ^ 51) = x / 2251799813685248 := fun x => fd x _ (by decide)
  rw [and51 _ h0, and51 _ h1, and51 _ h2, and51 _ h3, and51 _ h4, f, f, f, f, f]
  rw [wrap_u64_of (x := 19 * (x4 / 2251799813685248)) (by omega) (by omega), wrap_u64_of (by omega) (by omega), wrap_u64_of (by omega) (by omega), wrap_u64_of (by omega) (by omega), wrap_u64_of (by omega) (by omega), wrap_u64_of (by omega) (by omega)]
def p : Int := 57896044618658097711785492504343953926634992332820282019728792003956564819949
def F (x0 x1 x2 x3 x4 : Int) : Int := x0 + 2251799813685248 * x1 + 5070602400912917605986812821504 * x2 + 11417981541647679048466287755595961091061972992 * x3 + 25711008708143844408671393477458601640355247900524685364822016 * x4
/-- five limbs, each a little more than 51 bits at most, of a number modulo p -/
def El (l : List Int) (m : Int) : Prop := ∃ x0 x1 x2 x3 x4 q, l = [x0, x1, x2, x3, x4] ∧ (0 ≤ x0 ∧ x0 < 2251799813947392) ∧ (0 ≤ x1 ∧ x1 < 2251799813947392) ∧ (0 ≤ x2 ∧ x2 < 2251799813947392) ∧ (0 ≤ x3 ∧ x3 < 2251799813947392) ∧ (0 ≤ x4 ∧ x4 < 2251799813947392) ∧ F x0 x1 x2 x3 x4 = m + p * q
theorem carried_spec {x0 x1 x2 x3 x4 m q : Int} (h0 : 0 ≤ x0 ∧ x0 < 18446744073709551616) (h1 : 0 ≤ x1 ∧ x1 < 18446744073709551616) (h2 : 0 ≤ x2 ∧ x2 < 18446744073709551616) (h3 : 0 ≤ x3 ∧ x3 < 18446744073709551616) (h4 : 0 ≤ x4 ∧ x4 < 18446744073709551616)
    (h : F x0 x1 x2 x3 x4 = m + p * q) : ∃ c, field_Element_carried.f [x0, x1, x2, x3, x4] = some c ∧ El c m := by
  refine ⟨_, carried_eq h0 h1 h2 h3 h4, _, _, _, _, _, q - x4 / 2251799813685248, rfl, by omega, by omega, by omega, by omega, by omega, ?_⟩
  unfold F p at *
  omega
theorem plus_step (k : Nat) {b y y' : List Int} {i i' x z : Int} (hi : 0 ≤ i) (hi5 : i < 5) (ex : y.getD i.toNat 0 = x) (ez : b.getD i.toNat 0 = z) (hx : 0 ≤ x ∧ x < 2251799813947392) (hz : 0 ≤ z ∧ z < 2251799813947392)
    (es : y.set i.toNat (x + z) = y') (ei : i + 1 = i') : field_Element_Plus.p1 (k + 1) b y i = field_Element_Plus.p1 k b y' i' := by
  subst ex ez es ei
  rw [field_Element_Plus.p1, decide_eq_true hi5]
  simp only [br, lt]
  rw [chk_pos ⟨hi, hi5⟩, wrap_i64_of (by omega) (by omega), wrap_u64_of (by omega) (by omega)]
theorem plus_spec (k : Nat) (hk : 6 ≤ k) {a b : List Int} {m n : Int} (ha : El a m) (hb : El b n) : ∃ c, field_Element_Plus.f k a b = some c ∧ El c (m + n) := by
  obtain ⟨k, rfl⟩ := Nat.exists_eq_add_of_le' hk
  obtain ⟨x0, x1, x2, x3, x4, q, rfl, a0, a1, a2, a3, a4, e⟩ := ha
  obtain ⟨y0, y1, y2, y3, y4, q', rfl, b0, b1, b2, b3, b4, e'⟩ := hb
  have s0 := plus_step (k + 5) (b := [y0, y1, y2, y3, y4]) (y := [x0, x1, x2, x3, x4]) (i := 0) (by decide) (by decide) rfl rfl a0 b0 rfl rfl
  have s1 := plus_step (k + 4) (b := [y0, y1, y2, y3, y4]) (y := [x0 + y0, x1, x2, x3, x4]) (i := 1) (by decide) (by decide) rfl rfl a1 b1 rfl rfl
  have s2 := plus_step (k + 3) (b := [y0, y1, y2, y3, y4]) (y := [x0 + y0, x1 + y1, x2, x3, x4]) (i := 2) (by decide) (by decide) rfl rfl a2 b2 rfl rfl
  have s3 := plus_step (k + 2) (b := [y0, y1, y2, y3, y4]) (y := [x0 + y0, x1 + y1, x2 + y2, x3, x4]) (i := 3) (by decide) (by decide) rfl rfl a3 b3 rfl rfl
  have s4 := plus_step (k + 1) (b := [y0, y1, y2, y3, y4]) (y := [x0 + y0, x1 + y1, x2 + y2, x3 + y3, x4]) (i := 4) (by decide) (by decide) rfl rfl a4 b4 rfl rfl
  obtain ⟨c, ec, nc⟩ := carried_spec (x0 := x0 + y0) (x1 := x1 + y1) (x2 := x2 + y2) (x3 := x3 + y3) (x4 := x4 + y4) (m := m + n) (q := q + q') (by omega) (by omega) (by omega) (by omega) (by omega) (by unfold F p at *; omega)
  exact ⟨c, sbd (s0.trans (s1.trans (s2.trans (s3.trans (s4.trans rfl))))) (sbd ec rfl), nc⟩
theorem minus_spec {a b : List Int} {m n : Int} (ha : El a m) (hb : El b n) : ∃ c, field_Element_Minus.f a b = some c ∧ El c (m - n) := by
  obtain ⟨x0, x1, x2, x3, x4, q, rfl, a0, a1, a2, a3, a4, e⟩ := ha
  obtain ⟨y0, y1, y2, y3, y4, q', rfl, b0, b1, b2, b3, b4, e'⟩ := hb
  obtain ⟨c, ec, nc⟩ := carried_spec (x0 := x0 + 4503599627370458 - y0) (x1 := x1 + 4503599627370494 - y1) (x2 := x2 + 4503599627370494 - y2) (x3 := x3 + 4503599627370494 - y3) (x4 := x4 + 4503599627370494 - y4) (m := m - n) (q := q - q' + 2) (by omega) (by omega) (by omega) (by omega) (by omega) (by unfold F p at *; omega)
  refine ⟨c, ?_, nc⟩
  have w : ∀ x y d : Int, 0 ≤ x ∧ x < 2251799813947392 → 0 ≤ y ∧ y < 2251799813947392 → 4503599627370458 ≤ d ∧ d ≤ 4503599627370494 → IntKind.u64.wrap (IntKind.u64.wrap (x + d) - y) = x + d - y := by
    intro x y d hx hy hd
    rw [wrap_u64_of (x := x + d) (by omega) (by omega), wrap_u64_of (by omega) (by omega)]
  have e2 : field_Element_carried.f [IntKind.u64.wrap (IntKind.u64.wrap (x0 + 4503599627370458) - y0), IntKind.u64.wrap (IntKind.u64.wrap (x1 + 4503599627370494) - y1), IntKind.u64.wrap (IntKind.u64.wrap (x2 + 4503599627370494) - y2), IntKind.u64.wrap (IntKind.u64.wrap (x3 + 4503599627370494) - y3), IntKind.u64.wrap (IntKind.u64.wrap (x4 + 4503599627370494) - y4)] = some c := by
    rw [w _ _ _ a0 b0 (by decide), w _ _ _ a1 b1 (by decide), w _ _ _ a2 b2 (by decide), w _ _ _ a3 b3 (by decide), w _ _ _ a4 b4 (by decide)]
    exact ec
  exact sbd e2 rfl
end Go.Proofs.Ytalnjdcidmkajaa

namespace Go.Proofs.Ytalnjdcidmkajaa
open Go Go.Gx
theorem row {a0 a1 a2 a3 a4 b0 b1 b2 b3 b4 : Int} (ha0 : 0 ≤ a0 ∧ a0 < 2251799813947392) (ha1 : 0 ≤ a1 ∧ a1 < 2251799813947392) (ha2 : 0 ≤ a2 ∧ a2 < 2251799813947392) (ha3 : 0 ≤ a3 ∧ a3 < 2251799813947392) (ha4 : 0 ≤ a4 ∧ a4 < 2251799813947392) (hb0 : 0 ≤ b0 ∧ b0 < 42784196465000448) (hb1 : 0 ≤ b1 ∧ b1 < 42784196465000448) (hb2 : 0 ≤ b2 ∧ b2 < 42784196465000448) (hb3 : 0 ≤ b3 ∧ b3 < 42784196465000448) (hb4 : 0 ≤ b4 ∧ b4 < 42784196465000448) :
    ∃ r5 r6 r7 r8 hi lo, field_wide_add.f (List.replicate 2 (0 : Int)) a0 b0 = some r5 ∧ field_wide_add.f r5 a1 b1 = some r6 ∧ field_wide_add.f r6 a2 b2 = some r7 ∧ field_wide_add.f r7 a3 b3 = some r8 ∧ field_wide_add.f r8 a4 b4 = some [hi, lo] ∧ 0 ≤ hi ∧ (0 ≤ lo ∧ lo < 18446744073709551616) ∧ lo + 18446744073709551616 * hi = a0 * b0 + a1 * b1 + a2 * b2 + a3 * b3 + a4 * b4 := by
  have p0 := pb (P := 2251799813947392) (Q := 42784196465000448) ⟨ha0.1, by omega⟩ ⟨hb0.1, by omega⟩
  have p1 := pb (P := 2251799813947392) (Q := 42784196465000448) ⟨ha1.1, by omega⟩ ⟨hb1.1, by omega⟩
  have p2 := pb (P := 2251799813947392) (Q := 42784196465000448) ⟨ha2.1, by omega⟩ ⟨hb2.1, by omega⟩
  have p3 := pb (P := 2251799813947392) (Q := 42784196465000448) ⟨ha3.1, by omega⟩ ⟨hb3.1, by omega⟩
  have p4 := pb (P := 2251799813947392) (Q := 42784196465000448) ⟨ha4.1, by omega⟩ ⟨hb4.1, by omega⟩
  obtain ⟨h0, l0, e0, ph0, pl0, v0⟩ := add_spec (hi := 0) (lo := 0) (a := a0) (b := b0) (by decide) (by decide) (by omega) (by omega) (by omega)
  obtain ⟨h1, l1, e1, ph1, pl1, v1⟩ := add_spec (hi := h0) (lo := l0) (a := a1) (b := b1) ph0 pl0 (by omega) (by omega) (by omega)
  obtain ⟨h2, l2, e2, ph2, pl2, v2⟩ := add_spec (hi := h1) (lo := l1) (a := a2) (b := b2) ph1 pl1 (by omega) (by omega) (by omega)
  obtain ⟨h3, l3, e3, ph3, pl3, v3⟩ := add_spec (hi := h2) (lo := l2) (a := a3) (b := b3) ph2 pl2 (by omega) (by omega) (by omega)
  obtain ⟨h4, l4, e4, ph4, pl4, v4⟩ := add_spec (hi := h3) (lo := l3) (a := a4) (b := b4) ph3 pl3 (by omega) (by omega) (by omega)
  exact ⟨_, _, _, _, h4, l4, e0, e1, e2, e3, e4, ph4, pl4, by omega⟩
theorem times_spec {a b : List Int} {m n : Int} (ha : El a m) (hb : El b n) : ∃ c, field_Element_Times.f a b = some c ∧ El c (m * n) := by
  obtain ⟨x0, x1, x2, x3, x4, q, rfl, a0, a1, a2, a3, a4, e⟩ := ha
  obtain ⟨y0, y1, y2, y3, y4, q', rfl, b0, b1, b2, b3, b4, e'⟩ := hb
  have w1 : IntKind.u64.wrap (19 * y1) = 19 * y1 := wrap_u64_of (by omega) (by omega)
  have w2 : IntKind.u64.wrap (19 * y2) = 19 * y2 := wrap_u64_of (by omega) (by omega)
  have w3 : IntKind.u64.wrap (19 * y3) = 19 * y3 := wrap_u64_of (by omega) (by omega)
  have w4 : IntKind.u64.wrap (19 * y4) = 19 * y4 := wrap_u64_of (by omega) (by omega)
  have c0 : 0 ≤ y0 ∧ y0 < 42784196465000448 := by omega
  have d0 : 0 ≤ 19 * y0 ∧ 19 * y0 < 42784196465000448 := by omega
  have c1 : 0 ≤ y1 ∧ y1 < 42784196465000448 := by omega
  have d1 : 0 ≤ 19 * y1 ∧ 19 * y1 < 42784196465000448 := by omega
  have c2 : 0 ≤ y2 ∧ y2 < 42784196465000448 := by omega
  have d2 : 0 ≤ 19 * y2 ∧ 19 * y2 < 42784196465000448 := by omega
  have c3 : 0 ≤ y3 ∧ y3 < 42784196465000448 := by omega
  have d3 : 0 ≤ 19 * y3 ∧ 19 * y3 < 42784196465000448 := by omega
  have c4 : 0 ≤ y4 ∧ y4 < 42784196465000448 := by omega
  have d4 : 0 ≤ 19 * y4 ∧ 19 * y4 < 42784196465000448 := by omega
  obtain ⟨r00, r01, r02, r03, h0, l0, f00, f01, f02, f03, f04, ph0, pl0, v0⟩ := row a0 a1 a2 a3 a4 c0 d4 d3 d2 d1
  obtain ⟨r10, r11, r12, r13, h1, l1, f10, f11, f12, f13, f14, ph1, pl1, v1⟩ := row a0 a1 a2 a3 a4 c1 c0 d4 d3 d2
  obtain ⟨r20, r21, r22, r23, h2, l2, f20, f21, f22, f23, f24, ph2, pl2, v2⟩ := row a0 a1 a2 a3 a4 c2 c1 c0 d4 d3
  obtain ⟨r30, r31, r32, r33, h3, l3, f30, f31, f32, f33, f34, ph3, pl3, v3⟩ := row a0 a1 a2 a3 a4 c3 c2 c1 c0 d4
  obtain ⟨r40, r41, r42, r43, h4, l4, f40, f41, f42, f43, f44, ph4, pl4, v4⟩ := row a0 a1 a2 a3 a4 c4 c3 c2 c1 c0
  have p00 := pb (P := 2251799813947391) (Q := 2251799813947391) ⟨a0.1, by omega⟩ ⟨b0.1, by omega⟩
  have p01 := pb (P := 2251799813947391) (Q := 2251799813947391) ⟨a0.1, by omega⟩ ⟨b1.1, by omega⟩
  have p02 := pb (P := 2251799813947391) (Q := 2251799813947391) ⟨a0.1, by omega⟩ ⟨b2.1, by omega⟩
  have p03 := pb (P := 2251799813947391) (Q := 2251799813947391) ⟨a0.1, by omega⟩ ⟨b3.1, by omega⟩
  have p04 := pb (P := 2251799813947391) (Q := 2251799813947391) ⟨a0.1, by omega⟩ ⟨b4.1, by omega⟩
  have p10 := pb (P := 2251799813947391) (Q := 2251799813947391) ⟨a1.1, by omega⟩ ⟨b0.1, by omega⟩
  have p11 := pb (P := 2251799813947391) (Q := 2251799813947391) ⟨a1.1, by omega⟩ ⟨b1.1, by omega⟩
  have p12 := pb (P := 2251799813947391) (Q := 2251799813947391) ⟨a1.1, by omega⟩ ⟨b2.1, by omega⟩
  have p13 := pb (P := 2251799813947391) (Q := 2251799813947391) ⟨a1.1, by omega⟩ ⟨b3.1, by omega⟩
  have p14 := pb (P := 2251799813947391) (Q := 2251799813947391) ⟨a1.1, by omega⟩ ⟨b4.1, by omega⟩
  have p20 := pb (P := 2251799813947391) (Q := 2251799813947391) ⟨a2.1, by omega⟩ ⟨b0.1, by omega⟩
  have p21 := pb (P := 2251799813947391) (Q := 2251799813947391) ⟨a2.1, by omega⟩ ⟨b1.1, by omega⟩
  have p22 := pb (P := 2251799813947391) (Q := 2251799813947391) ⟨a2.1, by omega⟩ ⟨b2.1, by omega⟩
  have p23 := pb (P := 2251799813947391) (Q := 2251799813947391) ⟨a2.1, by omega⟩ ⟨b3.1, by omega⟩
  have p24 := pb (P := 2251799813947391) (Q := 2251799813947391) ⟨a2.1, by omega⟩ ⟨b4.1, by omega⟩
  have p30 := pb (P := 2251799813947391) (Q := 2251799813947391) ⟨a3.1, by omega⟩ ⟨b0.1, by omega⟩
  have p31 := pb (P := 2251799813947391) (Q := 2251799813947391) ⟨a3.1, by omega⟩ ⟨b1.1, by omega⟩
  have p32 := pb (P := 2251799813947391) (Q := 2251799813947391) ⟨a3.1, by omega⟩ ⟨b2.1, by omega⟩
  have p33 := pb (P := 2251799813947391) (Q := 2251799813947391) ⟨a3.1, by omega⟩ ⟨b3.1, by omega⟩
  have p34 := pb (P := 2251799813947391) (Q := 2251799813947391) ⟨a3.1, by omega⟩ ⟨b4.1, by omega⟩
  have p40 := pb (P := 2251799813947391) (Q := 2251799813947391) ⟨a4.1, by omega⟩ ⟨b0.1, by omega⟩
  have p41 := pb (P := 2251799813947391) (Q := 2251799813947391) ⟨a4.1, by omega⟩ ⟨b1.1, by omega⟩
  have p42 := pb (P := 2251799813947391) (Q := 2251799813947391) ⟨a4.1, by omega⟩ ⟨b2.1, by omega⟩
  have p43 := pb (P := 2251799813947391) (Q := 2251799813947391) ⟨a4.1, by omega⟩ ⟨b3.1, by omega⟩
  have p44 := pb (P := 2251799813947391) (Q := 2251799813947391) ⟨a4.1, by omega⟩ ⟨b4.1, by omega⟩
  have hp : F x0 x1 x2 x3 x4 * F y0 y1 y2 y3 y4 = x0 * y0 + 2251799813685248 * (x0 * y1) + 5070602400912917605986812821504 * (x0 * y2) + 11417981541647679048466287755595961091061972992 * (x0 * y3) + 25711008708143844408671393477458601640355247900524685364822016 * (x0 * y4) + 2251799813685248 * (x1 * y0) + 5070602400912917605986812821504 * (x1 * y1) + 11417981541647679048466287755595961091061972992 * (x1 * y2) + 25711008708143844408671393477458601640355247900524685364822016 * (x1 * y3) + 57896044618658097711785492504343953926634992332820282019728792003956564819968 * (x1 * y4) + 5070602400912917605986812821504 * (x2 * y0) + 11417981541647679048466287755595961091061972992 * (x2 * y1) + 25711008708143844408671393477458601640355247900524685364822016 * (x2 * y2) + 57896044618658097711785492504343953926634992332820282019728792003956564819968 * (x2 * y3) + 130370302485407109521180524058200202307293977194619920040712988758680403184853549195737432064 * (x2 * y4) + 11417981541647679048466287755595961091061972992 * (x3 * y0) + 25711008708143844408671393477458601640355247900524685364822016 * (x3 * y1) + 57896044618658097711785492504343953926634992332820282019728792003956564819968 * (x3 * y2) + 130370302485407109521180524058200202307293977194619920040712988758680403184853549195737432064 * (x3 * y3) + 293567822846729153486185074598667128421960318613539983838411371441526128139326055432962374798096087878991872 * (x3 * y4) + 25711008708143844408671393477458601640355247900524685364822016 * (x4 * y0) + 57896044618658097711785492504343953926634992332820282019728792003956564819968 * (x4 * y1) + 130370302485407109521180524058200202307293977194619920040712988758680403184853549195737432064 * (x4 * y2) + 293567822846729153486185074598667128421960318613539983838411371441526128139326055432962374798096087878991872 * (x4 * y3) + 661055968790248598951915308032771039828404682964281219284648795274405791236311345825189210439715284847591212025023358304256 * (x4 * y4) := by unfold F; grind
  have hq : F x0 x1 x2 x3 x4 * F y0 y1 y2 y3 y4 = m * n + p * (m * q' + q * n + p * q * q') := by rw [e, e']; grind
  have lc : ∀ x y : Int, x * (19 * y) = 19 * (x * y) := fun x y => Int.mul_left_comm x 19 y
  simp only [lc] at v0 v1 v2 v3
  clear e e'
  generalize x0 * y0 = z00 at *
  generalize x0 * y1 = z01 at *
  generalize x0 * y2 = z02 at *
  generalize x0 * y3 = z03 at *
  generalize x0 * y4 = z04 at *
  generalize x1 * y0 = z10 at *
  generalize x1 * y1 = z11 at *
  generalize x1 * y2 = z12 at *
  generalize x1 * y3 = z13 at *
  generalize x1 * y4 = z14 at *
  generalize x2 * y0 = z20 at *
  generalize x2 * y1 = z21 at *
  generalize x2 * y2 = z22 at *
  generalize x2 * y3 = z23 at *
  generalize x2 * y4 = z24 at *
  generalize x3 * y0 = z30 at *
  generalize x3 * y1 = z31 at *
  generalize x3 * y2 = z32 at *
  generalize x3 * y3 = z33 at *
  generalize x3 * y4 = z34 at *
  generalize x4 * y0 = z40 at *
  generalize x4 * y1 = z41 at *
  generalize x4 * y2 = z42 at *
  generalize x4 * y3 = z43 at *
  generalize x4 * y4 = z44 at *
  generalize F x0 x1 x2 x3 x4 * F y0 y1 y2 y3 y4 = EF at *
  generalize m * q' + q * n + p * q * q' = Q at *
  obtain ⟨c, ec, nc⟩ := carried_spec (x0 := l0 % 2251799813685248 + 19 * ((l4 + 18446744073709551616 * h4) / 2251799813685248)) (x1 := l1 % 2251799813685248 + (l0 + 18446744073709551616 * h0) / 2251799813685248) (x2 := l2 % 2251799813685248 + (l1 + 18446744073709551616 * h1) / 2251799813685248) (x3 := l3 % 2251799813685248 + (l2 + 18446744073709551616 * h2) / 2251799813685248) (x4 := l4 % 2251799813685248 + (l3 + 18446744073709551616 * h3) / 2251799813685248) (m := m * n) (q := Q - (1 * z14 + 1 * z23 + 2251799813685248 * z24 + 1 * z32 + 2251799813685248 * z33 + 5070602400912917605986812821504 * z34 + 1 * z41 + 2251799813685248 * z42 + 5070602400912917605986812821504 * z43 + 11417981541647679048466287755595961091061972992 * z44) - (l4 + 18446744073709551616 * h4) / 2251799813685248) (by omega) (by omega) (by omega) (by omega) (by omega) (by unfold F p at *; omega)
  refine ⟨c, ?_, nc⟩
  have g0 := shifted_spec (hi := h0) (lo := l0) (by omega) pl0
  have g1 := shifted_spec (hi := h1) (lo := l1) (by omega) pl1
  have g2 := shifted_spec (hi := h2) (lo := l2) (by omega) pl2
  have g3 := shifted_spec (hi := h3) (lo := l3) (by omega) pl3
  have g4 := shifted_spec (hi := h4) (lo := l4) (by omega) pl4
  have ef : field_Element_carried.f [IntKind.u64.wrap (bits .and .u64 l0 2251799813685247 + IntKind.u64.wrap (19 * ((l4 + 18446744073709551616 * h4) / 2251799813685248))), IntKind.u64.wrap (bits .and .u64 l1 2251799813685247 + (l0 + 18446744073709551616 * h0) / 2251799813685248), IntKind.u64.wrap (bits .and .u64 l2 2251799813685247 + (l1 + 18446744073709551616 * h1) / 2251799813685248), IntKind.u64.wrap (bits .and .u64 l3 2251799813685247 + (l2 + 18446744073709551616 * h2) / 2251799813685248), IntKind.u64.wrap (bits .and .u64 l4 2251799813685247 + (l3 + 18446744073709551616 * h3) / 2251799813685248)] = some c := by
    rw [and51 _ pl0, and51 _ pl1, and51 _ pl2, and51 _ pl3, and51 _ pl4, wrap_u64_of (x := 19 * ((l4 + 18446744073709551616 * h4) / 2251799813685248)) (by omega) (by omega)]
    rw [wrap_u64_of (x := l0 % 2251799813685248 + 19 * ((l4 + 18446744073709551616 * h4) / 2251799813685248)) (by omega) (by omega), wrap_u64_of (x := l1 % 2251799813685248 + (l0 + 18446744073709551616 * h0) / 2251799813685248) (by omega) (by omega), wrap_u64_of (x := l2 % 2251799813685248 + (l1 + 18446744073709551616 * h1) / 2251799813685248) (by omega) (by omega), wrap_u64_of (x := l3 % 2251799813685248 + (l2 + 18446744073709551616 * h2) / 2251799813685248) (by omega) (by omega), wrap_u64_of (x := l4 % 2251799813685248 + (l3 + 18446744073709551616 * h3) / 2251799813685248) (by omega) (by omega)]
    exact ec
  rw [← w4] at f01
  rw [← w3] at f02
  rw [← w2] at f03
  rw [← w1] at f04
  rw [← w4] at f12
  rw [← w3] at f13
  rw [← w2] at f14
  rw [← w4] at f23
  rw [← w3] at f24
  rw [← w4] at f34
  exact sbd f00 (sbd f01 (sbd f02 (sbd f03 (sbd f04 (sbd f10 (sbd f11 (sbd f12 (sbd f13 (sbd f14 (sbd f20 (sbd f21 (sbd f22 (sbd f23 (sbd f24 (sbd f30 (sbd f31 (sbd f32 (sbd f33 (sbd f34 (sbd f40 (sbd f41 (sbd f42 (sbd f43 (sbd f44 (sbd g4 (sbd g0 (sbd g1 (sbd g2 (sbd g3 (sbd ef rfl))))))))))))))))))))))))))))))
end Go.Proofs.Ytalnjdcidmkajaa

namespace Go.Proofs.Ytalnjdcidmkajaa
open Go Go.Gx
theorem word_step (k : Nat) {a : List Int} (hl : a.length = 32) (ha : ∀ x ∈ a, IntKind.u8.has x) (i j : Nat) (hi : i + j < 32) {w y : Int} (yi : y = (i : Int)) (hj : j < 8) (h0 : 0 ≤ w) (h1 : w < 72057594037927936) :
    field_Of_1.p1 (k + 1) y a w (j : Int) = field_Of_1.p1 k y a (w * 256 + a.getD (i + j) 0) ((j : Int) - 1) := by
  subst yi
  have hb := getD_u8 a ha (i + j)
  rw [field_Of_1.p1, decide_eq_true (show (j : Int) ≥ 0 by omega)]
  simp only [br, lt]
  rw [wrap_i64_of (x := (i : Int) + j) (by omega) (by omega), chk_pos ⟨by omega, by omega⟩, wrap_i64_of (by omega) (by omega), show ((i : Int) + j).toNat = i + j by omega]
  rw [wu64, wrap_u64_of (x := a.getD (i + j) 0) hb.1 (by omega), Int.emod_eq_of_lt (by omega) (by omega), or_u64 8 _ _ (by omega) (by omega) (by omega) hb.1 (by omega) (by omega)]
  rfl
theorem word_spec (k : Nat) (hk : 9 ≤ k) {a : List Int} (hl : a.length = 32) (ha : ∀ x ∈ a, IntKind.u8.has x) (i : Nat) (hi : i + 8 ≤ 32) :
    ∃ w, field_Of_1.f k (i : Int) a = some w ∧ (0 ≤ w ∧ w < 18446744073709551616) ∧ B (a.drop i) = w + 18446744073709551616 * B (a.drop (i + 8)) := by
  obtain ⟨k, rfl⟩ := Nat.exists_eq_add_of_le' hk
  have b := fun j => getD_u8 a ha (i + j)
  have d0 : B (a.drop (i + 0)) = a.getD (i + 0) 0 + 256 * B (a.drop (i + 1)) := B_drop a (i + 0) (by omega)
  have d1 : B (a.drop (i + 1)) = a.getD (i + 1) 0 + 256 * B (a.drop (i + 2)) := B_drop a (i + 1) (by omega)
  have d2 : B (a.drop (i + 2)) = a.getD (i + 2) 0 + 256 * B (a.drop (i + 3)) := B_drop a (i + 2) (by omega)
  have d3 : B (a.drop (i + 3)) = a.getD (i + 3) 0 + 256 * B (a.drop (i + 4)) := B_drop a (i + 3) (by omega)
  have d4 : B (a.drop (i + 4)) = a.getD (i + 4) 0 + 256 * B (a.drop (i + 5)) := B_drop a (i + 4) (by omega)
  have d5 : B (a.drop (i + 5)) = a.getD (i + 5) 0 + 256 * B (a.drop (i + 6)) := B_drop a (i + 5) (by omega)
  have d6 : B (a.drop (i + 6)) = a.getD (i + 6) 0 + 256 * B (a.drop (i + 7)) := B_drop a (i + 6) (by omega)
  have d7 : B (a.drop (i + 7)) = a.getD (i + 7) 0 + 256 * B (a.drop (i + 8)) := B_drop a (i + 7) (by omega)
  have b0 := b 0; have b1 := b 1; have b2 := b 2; have b3 := b 3; have b4 := b 4; have b5 := b 5; have b6 := b 6; have b7 := b 7
  clear b
  show ∃ w, _ ∧ _ ∧ B (a.drop (i + 0)) = _
  have s := fun k j w => word_step k hl ha i j (y := i) (w := w)
  have s7 := s (k + 8) 7 0 (by omega) rfl (by omega) (by omega) (by omega)
  have s6 := s (k + 7) 6 _ (by omega) rfl (by omega) (by omega) (by omega) |> fun h => (h : field_Of_1.p1 (k + 8) i a (0 * 256 + a.getD (i + 7) 0) 6 = _)
  have s5 := s (k + 6) 5 _ (by omega) rfl (by omega) (by omega) (by omega) |> fun h => (h : field_Of_1.p1 (k + 7) i a ((0 * 256 + a.getD (i + 7) 0) * 256 + a.getD (i + 6) 0) 5 = _)
  have s4 := s (k + 5) 4 _ (by omega) rfl (by omega) (by omega) (by omega) |> fun h => (h : field_Of_1.p1 (k + 6) i a (((0 * 256 + a.getD (i + 7) 0) * 256 + a.getD (i + 6) 0) * 256 + a.getD (i + 5) 0) 4 = _)
  have s3 := s (k + 4) 3 _ (by omega) rfl (by omega) (by omega) (by omega) |> fun h => (h : field_Of_1.p1 (k + 5) i a ((((0 * 256 + a.getD (i + 7) 0) * 256 + a.getD (i + 6) 0) * 256 + a.getD (i + 5) 0) * 256 + a.getD (i + 4) 0) 3 = _)
  have s2 := s (k + 3) 2 _ (by omega) rfl (by omega) (by omega) (by omega) |> fun h => (h : field_Of_1.p1 (k + 4) i a (((((0 * 256 + a.getD (i + 7) 0) * 256 + a.getD (i + 6) 0) * 256 + a.getD (i + 5) 0) * 256 + a.getD (i + 4) 0) * 256 + a.getD (i + 3) 0) 2 = _)
  have s1 := s (k + 2) 1 _ (by omega) rfl (by omega) (by omega) (by omega) |> fun h => (h : field_Of_1.p1 (k + 3) i a ((((((0 * 256 + a.getD (i + 7) 0) * 256 + a.getD (i + 6) 0) * 256 + a.getD (i + 5) 0) * 256 + a.getD (i + 4) 0) * 256 + a.getD (i + 3) 0) * 256 + a.getD (i + 2) 0) 1 = _)
  have s0 := s (k + 1) 0 _ (by omega) rfl (by omega) (by omega) (by omega) |> fun h => (h : field_Of_1.p1 (k + 2) i a (((((((0 * 256 + a.getD (i + 7) 0) * 256 + a.getD (i + 6) 0) * 256 + a.getD (i + 5) 0) * 256 + a.getD (i + 4) 0) * 256 + a.getD (i + 3) 0) * 256 + a.getD (i + 2) 0) * 256 + a.getD (i + 1) 0) 0 = _)
  refine ⟨_, sbd (s7.trans (s6.trans (s5.trans (s4.trans (s3.trans (s2.trans (s1.trans (s0.trans rfl)))))))) rfl, by omega, by omega⟩
theorem B_drop_div (a : List Int) (ha : ∀ x ∈ a, IntKind.u8.has x) (i : Nat) : B (a.drop i) = B a / 256 ^ i := by
  induction i generalizing a with
  | zero => simp
  | succ i ih =>
    cases a with
    | nil => simp [B]
    | cons x l =>
      have hx := u8_b (ha x (List.mem_cons_self ..))
      rw [List.drop_succ_cons, ih l fun y hy => ha y (List.mem_cons_of_mem _ hy), B, Int.pow_succ, Int.mul_comm (256 ^ i), ← Int.ediv_ediv_of_nonneg (show (0 : Int) ≤ 256 by decide), show (x + 256 * B l) / 256 = B l by omega]
theorem of_spec (k : Nat) (hk : 9 ≤ k) {a : List Int} (h : By a 32) : ∃ c, field_Of.f k a = some c ∧ El c (B a) := by
  have hB := B_lt h
  have hB0 := B_nonneg h
  obtain ⟨w0, e0, b0, v0⟩ := word_spec k hk h.1 h.2 0 (by decide)
  obtain ⟨w6, e6, b6, v6⟩ := word_spec k hk h.1 h.2 6 (by decide)
  obtain ⟨w12, e12, b12, v12⟩ := word_spec k hk h.1 h.2 12 (by decide)
  obtain ⟨w19, e19, b19, v19⟩ := word_spec k hk h.1 h.2 19 (by decide)
  obtain ⟨w24, e24, b24, v24⟩ := word_spec k hk h.1 h.2 24 (by decide)
  have v31 := B_drop a 31 (by rw [h.1]; decide)
  have hb := getD_u8 a h.2 31
  rw [List.drop_of_length_le (by rw [h.1]; decide : a.length ≤ 31 + 1), show B [] = 0 from rfl] at v31
  rw [B_drop_div a h.2] at v0 v6 v12 v19 v24 v31
  rw [B_drop_div a h.2] at v0 v6 v12 v19 v24
  simp only [Nat.reduceAdd, Int.reducePow] at v0 v6 v12 v19 v24 v31
  obtain ⟨t, ht⟩ : ∃ t, t = a.getD 31 0 := ⟨_, rfl⟩
  rw [← ht] at v31 hb
  generalize hV : B a = V at *
  have hw : IntKind.u64.wrap (19 * IntKind.u64.wrap (Int.fdiv t (2 ^ 7))) = 19 * (t / 128) := by
    rw [fd _ _ (by decide), wrap_u64_of (x := t / 2 ^ 7) (by omega) (by omega), wrap_u64_of (by omega) (by omega)]; rfl
  refine ⟨[w0 % 2251799813685248 + 19 * (t / 128), w6 / 8 % 2251799813685248, w12 / 64 % 2251799813685248, w19 / 2 % 2251799813685248, w24 / 4096 % 2251799813685248], ?_, _, _, _, _, _, -(V / 57896044618658097711785492504343953926634992332820282019728792003956564819968), rfl, by omega, by omega, by omega, by omega, by omega, by unfold F p; omega⟩
  refine sbd e0 (sbd e6 (sbd e12 (sbd e19 (sbd e24 (som ?_)))))
  have g0 : bits .and .u64 w0 2251799813685247 = w0 % 2251799813685248 := and51 _ b0
  have g1 : bits .and .u64 (Int.fdiv w6 (2 ^ 3)) 2251799813685247 = w6 / 8 % 2251799813685248 := by rw [fd _ _ (by decide)]; exact and51 _ (by omega)
  have g2 : bits .and .u64 (Int.fdiv w12 (2 ^ 6)) 2251799813685247 = w12 / 64 % 2251799813685248 := by rw [fd _ _ (by decide)]; exact and51 _ (by omega)
  have g3 : bits .and .u64 (Int.fdiv w19 (2 ^ 1)) 2251799813685247 = w19 / 2 % 2251799813685248 := by rw [fd _ _ (by decide)]; exact and51 _ (by omega)
  have g4 : bits .and .u64 (Int.fdiv w24 (2 ^ 12)) 2251799813685247 = w24 / 4096 % 2251799813685248 := by rw [fd _ _ (by decide)]; exact and51 _ (by omega)
  rw [g0, g1, g2, g3, g4]
  show [IntKind.u64.wrap (w0 % 2251799813685248 + IntKind.u64.wrap (19 * IntKind.u64.wrap (Int.fdiv (a.getD 31 0) (2 ^ 7)))), _, _, _, _] = _
  rw [← ht, hw, wrap_u64_of (by omega) (by omega)]
-- Bytes
theorem q_step (k : Nat) {r : List Int} {i i' y y' x : Int} (hi : 0 ≤ i) (hi4 : i < 4) (ex : r.getD (1 + i.toNat * 1) 0 = x) (hx : 0 ≤ x ∧ x < 2251799813947392) (hy : 0 ≤ y ∧ y < 2251799813947392) (ey : (x + y) / 2251799813685248 = y') (ei : i + 1 = i') :
    field_Element_Bytes.p1 (k + 1) 4 r y i = field_Element_Bytes.p1 k 4 r y' i' := by
  subst ex ey ei
  rw [field_Element_Bytes.p1, decide_eq_true hi4]
  simp only [br, lt]
  rw [chk_pos (show 0 ≤ i ∧ i < 5 - 1 by omega), wrap_i64_of (by omega) (by omega), wrap_u64_of (by omega) (by omega), fd _ _ (by decide)]
  rfl
theorem c_step (k : Nat) {y y' y'' : List Int} {i i' u v : Int} (hi : 0 ≤ i) (hi4 : i < 4) (eu : y.getD i.toNat 0 = u) (ev : y.getD (i + 1).toNat 0 = v) (hu : 0 ≤ u ∧ u < 4503599627370496) (hv : 0 ≤ v ∧ v < 4503599627370496)
    (e1 : y.set (i + 1).toNat (v + u / 2251799813685248) = y') (e2 : y'.getD i.toNat 0 = u) (e3 : y'.set i.toNat (u % 2251799813685248) = y'') (ei : i + 1 = i') :
    field_Element_Bytes.p2 (k + 1) y i = field_Element_Bytes.p2 k y'' i' := by
  rw [field_Element_Bytes.p2, decide_eq_true hi4]
  simp only [br, lt]
  rw [wrap_i64_of (x := i + 1) (by omega) (by omega), chk_pos (by omega), chk_pos (by omega), eu, ev, fd _ _ (by decide), wrap_u64_of (x := v + u / 2 ^ 51) (by omega) (by omega)]
  rw [show v + u / 2 ^ 51 = v + u / 2251799813685248 from rfl, e1, e2, and51 _ (by omega), e3, ei]
theorem b_loop (d k : Nat) (hk : d + 1 ≤ k) (ws : List Int) (n : Nat) (hn : n < 4) (hd : d ≤ 8) :
    field_Element_Bytes.p4 k (n : Int) (ws.getD n 0) (fil (wb ws) 32 (8 * n + (8 - d))) ((8 - d : Nat) : Int) = some (fil (wb ws) 32 (8 * n + 8)) := by
  induction d generalizing k with
  | zero =>
    obtain ⟨k, rfl⟩ := Nat.exists_eq_add_of_le' (show 1 ≤ k by omega)
    rfl
  | succ d ih =>
    obtain ⟨k, rfl⟩ := Nat.exists_eq_add_of_le' (show 1 ≤ k by omega)
    obtain ⟨j, ej⟩ : ∃ j, j = 8 - (d + 1) := ⟨_, rfl⟩
    have hj : j < 8 := by omega
    rw [← ej, field_Element_Bytes.p4, decide_eq_true (show (j : Int) < 8 by omega)]
    simp only [br, lt]
    rw [wrap_i64_of (x := 8 * (j : Int)) (by omega) (by omega), wrap_i64_of (x := 8 * (n : Int)) (by omega) (by omega), wrap_i64_of (x := 8 * (n : Int) + j) (by omega) (by omega), wrap_i64_of (x := (j : Int) + 1) (by omega) (by omega)]
    rw [chk_pos (by omega), chk_pos (by omega)]
    rw [show (8 * (j : Int)).toNat = 8 * j by omega, show (8 * (n : Int) + j).toNat = 8 * n + j by omega]
    rw [show min (8 * j) IntKind.u64.bits = 8 * j from Nat.min_eq_left (show 8 * j ≤ 64 by omega), fd _ _ (Int.le_of_lt (Int.pow_pos (by decide))), IntKind.wrap_u8]
    rw [show ws.getD n 0 / 2 ^ (8 * j) % 256 = wb ws (8 * n + j) by unfold wb; rw [show (8 * n + j) / 8 = n by omega, show (8 * n + j) % 8 = j by omega]]
    rw [fil_set _ _ _ (by omega), show (j : Int) + 1 = ((j + 1 : Nat) : Int) by omega, show 8 * n + j + 1 = 8 * n + (8 - d) by omega, show j + 1 = 8 - d by omega]
    exact ih k (by omega) (by omega)
theorem w_loop (d k : Nat) (hk : d + 10 ≤ k) (m ws : List Int) (hd : d ≤ 4)
    (hm : ∀ n : Nat, n < 4 → m.getD n 0 = ws.getD n 0) :
    field_Element_Bytes.p3 k m (fil (wb ws) 32 (8 * (4 - d))) ((4 - d : Nat) : Int) = some ((List.range 32).map (wb ws)) := by
  induction d generalizing k with
  | zero =>
    obtain ⟨k, rfl⟩ := Nat.exists_eq_add_of_le' (show 1 ≤ k by omega)
    rw [Nat.sub_zero, fil_all]; rfl
  | succ d ih =>
    obtain ⟨k, rfl⟩ := Nat.exists_eq_add_of_le' (show 1 ≤ k by omega)
    obtain ⟨n, en⟩ : ∃ n, n = 4 - (d + 1) := ⟨_, rfl⟩
    have hn : n < 4 := by omega
    rw [← en, field_Element_Bytes.p3, decide_eq_true (show (n : Int) < 4 by omega)]
    show chk _ _ = _
    rw [chk_pos (by omega)]
    refine lt_rw (y := ws.getD n 0) (by rw [show (n : Int).toNat = n by omega]; exact hm n hn) ?_
    refine sbd (b_loop 8 k (by omega) ws n hn (by decide)) ?_
    refine lt_rw (wrap_i64_of (by omega) (by omega)) ?_
    rw [show (n : Int) + 1 = ((4 - d : Nat) : Int) by omega, show 8 * n + 8 = 8 * (4 - d) by omega]
    exact ih k (by omega) (by omega)
end Go.Proofs.Ytalnjdcidmkajaa

namespace Go.Proofs.Ytalnjdcidmkajaa
open Go Go.Gx
theorem pack_spec (k : Nat) (hk : 20 ≤ k) {z0 z1 z2 z3 z4 : Int} (h0 : 0 ≤ z0 ∧ z0 < 2251799813685248) (h1 : 0 ≤ z1 ∧ z1 < 2251799813685248) (h2 : 0 ≤ z2 ∧ z2 < 2251799813685248) (h3 : 0 ≤ z3 ∧ z3 < 2251799813685248) (h4 : 0 ≤ z4 ∧ z4 < 4503599627370496) :
    field_Element_Bytes.p3 k [(bits .or .u64 z0 (IntKind.u64.wrap (z1 * 2 ^ 51))), (bits .or .u64 (Int.fdiv z1 (2 ^ 13)) (IntKind.u64.wrap (z2 * 2 ^ 38))), (bits .or .u64 (Int.fdiv z2 (2 ^ 26)) (IntKind.u64.wrap (z3 * 2 ^ 25))), (bits .or .u64 (Int.fdiv z3 (2 ^ 39)) (IntKind.u64.wrap ((bits .and .u64 z4 2251799813685247) * 2 ^ 12)))] (List.replicate 32 0) 0 = some (toB 32 (F z0 z1 z2 z3 (z4 % 2251799813685248))) := by
  obtain ⟨y4, e4⟩ : ∃ y, y = z4 % 2251799813685248 := ⟨_, rfl⟩
  have b4 : 0 ≤ y4 ∧ y4 < 2251799813685248 := by omega
  have f : ∀ (x : Int) (n : Nat), Int.fdiv x (2 ^ n) = x / 2 ^ n := fun x n => fd x _ (Int.le_of_lt (Int.pow_pos (by decide)))
  have w0 : bits .or .u64 z0 (IntKind.u64.wrap (z1 * 2 ^ 51)) = z0 + 2251799813685248 * (z1 % 8192) := by
    rw [wu64, or_u64' 51 _ _ (by omega) (by omega) (by omega) (by omega) (by omega) (by omega)]; omega
  have w1 : bits .or .u64 (Int.fdiv z1 (2 ^ 13)) (IntKind.u64.wrap (z2 * 2 ^ 38)) = z1 / 8192 + 274877906944 * (z2 % 67108864) := by
    rw [f, wu64, or_u64' 38 _ _ (by omega) (by omega) (by omega) (by omega) (by omega) (by omega)]; omega
  have w2 : bits .or .u64 (Int.fdiv z2 (2 ^ 26)) (IntKind.u64.wrap (z3 * 2 ^ 25)) = z2 / 67108864 + 33554432 * (z3 % 549755813888) := by
    rw [f, wu64, or_u64' 25 _ _ (by omega) (by omega) (by omega) (by omega) (by omega) (by omega)]; omega
  have w3 : bits .or .u64 (Int.fdiv z3 (2 ^ 39)) (IntKind.u64.wrap (y4 * 2 ^ 12)) = z3 / 549755813888 + 4096 * y4 := by
    rw [f, wu64, or_u64' 12 _ _ (by omega) (by omega) (by omega) (by omega) (by omega) (by omega)]; omega
  obtain ⟨ws, ews⟩ : ∃ ws : List Int, ws = [z0 + 2251799813685248 * (z1 % 8192), z1 / 8192 + 274877906944 * (z2 % 67108864), z2 / 67108864 + 33554432 * (z3 % 549755813888), z3 / 549755813888 + 4096 * y4] := ⟨_, rfl⟩
  have hW : W ws := by rw [ews]; simp only [W_cons]; exact ⟨by omega, by omega, by omega, by omega, W_nil⟩
  have hV : V ws = F z0 z1 z2 z3 y4 := by rw [ews]; simp only [V]; unfold F; omega
  rw [and51 z4 (by omega), ← e4, w0, w1, w2, w3, ← ews]
  have := w_loop 4 k (by omega) ws ws (by decide) (fun n _ => rfl)
  rw [Nat.sub_self, Nat.mul_zero, fil_zero] at this
  refine (show _ = _ from this).trans (som ?_)
  exact eq_toB (wb_u8 ws 32) (by simp) (by have h := wb_bytes ws hW; rw [hV] at h; rw [← h, ews]; rfl)
theorem cb {u v : Int} (hu : 0 ≤ u) (hv : 0 ≤ v ∧ v < 2251799813947392) : 0 ≤ u % 2251799813685248 + v / 2251799813685248 ∧ u % 2251799813685248 + v / 2251799813685248 < 2251799813685250 := by omega
theorem cb0 {u v : Int} (hu : 0 ≤ u) (hv : 0 ≤ v ∧ v < 2251799813947392) : 0 ≤ u % 2251799813685248 + 19 * (v / 2251799813685248) ∧ u % 2251799813685248 + 19 * (v / 2251799813685248) < 2251799813685300 := by omega
theorem cF {u0 u1 u2 u3 u4 : Int} : F (u0 % 2251799813685248 + 19 * (u4 / 2251799813685248)) (u1 % 2251799813685248 + u0 / 2251799813685248) (u2 % 2251799813685248 + u1 / 2251799813685248) (u3 % 2251799813685248 + u2 / 2251799813685248) (u4 % 2251799813685248 + u3 / 2251799813685248) = F u0 u1 u2 u3 u4 - p * (u4 / 2251799813685248) := by
  unfold F p; omega
theorem wd {x a : Int} (h : 0 ≤ x ∧ x < a) (ha : a ≤ 18446744073709551616) : 0 ≤ x ∧ x < 18446744073709551616 := ⟨h.1, Int.lt_of_lt_of_le h.2 ha⟩
theorem wd2 {x a : Int} (h : 0 ≤ x ∧ x < a) (ha : a ≤ 2251799813947392) : 0 ≤ x ∧ x < 2251799813947392 := ⟨h.1, Int.lt_of_lt_of_le h.2 ha⟩
theorem twice {a : List Int} {m : Int} (h : El a m) : ∃ r x0 x1 x2 x3 x4 Q, field_Element_carried.f a = some r ∧ field_Element_carried.f r = some [x0, x1, x2, x3, x4] ∧ (0 ≤ x0 ∧ x0 < 2251799813685300) ∧ (0 ≤ x1 ∧ x1 < 2251799813685250) ∧ (0 ≤ x2 ∧ x2 < 2251799813685250) ∧ (0 ≤ x3 ∧ x3 < 2251799813685250) ∧ (0 ≤ x4 ∧ x4 < 2251799813685250) ∧ F x0 x1 x2 x3 x4 = m + p * Q := by
  obtain ⟨u0, u1, u2, u3, u4, q, rfl, a0, a1, a2, a3, a4, e⟩ := h
  have c1 := carried_eq (wd a0 (by decide)) (wd a1 (by decide)) (wd a2 (by decide)) (wd a3 (by decide)) (wd a4 (by decide))
  have b0 := cb0 a0.1 a4
  have b1 := cb a1.1 a0
  have b2 := cb a2.1 a1
  have b3 := cb a3.1 a2
  have b4 := cb a4.1 a3
  have f1 := cF (u0 := u0) (u1 := u1) (u2 := u2) (u3 := u3) (u4 := u4)
  rw [e] at f1
  have c2 := carried_eq (wd b0 (by decide)) (wd b1 (by decide)) (wd b2 (by decide)) (wd b3 (by decide)) (wd b4 (by decide))
  have f2 := @cF (u0 % 2251799813685248 + 19 * (u4 / 2251799813685248)) (u1 % 2251799813685248 + u0 / 2251799813685248) (u2 % 2251799813685248 + u1 / 2251799813685248) (u3 % 2251799813685248 + u2 / 2251799813685248) (u4 % 2251799813685248 + u3 / 2251799813685248)
  rw [f1] at f2
  refine ⟨_, _, _, _, _, _, q - u4 / 2251799813685248 - (u4 % 2251799813685248 + u3 / 2251799813685248) / 2251799813685248, c1, c2, cb0 b0.1 (wd2 b4 (by decide)), cb b1.1 (wd2 b0 (by decide)), cb b2.1 (wd2 b1 (by decide)), cb b3.1 (wd2 b2 (by decide)), cb b4.1 (wd2 b3 (by decide)), f2.trans ?_⟩
  rw [Int.mul_sub, Int.mul_sub]; omega
theorem qstep {x s t : Int} (hx : 0 ≤ x ∧ x < 2251799813685300) (hs : 0 ≤ s ∧ s ≤ 19) (ht : t = (x + s) / 2251799813685248) : 0 ≤ t ∧ t ≤ 1 := by omega
theorem qval {x0 x1 x2 x3 x4 s0 s1 s2 s3 s4 : Int} (e0 : s0 = (x0 + 19) / 2251799813685248) (e1 : s1 = (x1 + s0) / 2251799813685248) (e2 : s2 = (x2 + s1) / 2251799813685248) (e3 : s3 = (x3 + s2) / 2251799813685248) (e4 : s4 = (x4 + s3) / 2251799813685248) :
    ∃ R, F x0 x1 x2 x3 x4 + 19 = 57896044618658097711785492504343953926634992332820282019728792003956564819968 * s4 + R ∧ 0 ≤ R ∧ R < 57896044618658097711785492504343953926634992332820282019728792003956564819968 := by
  refine ⟨F x0 x1 x2 x3 x4 + 19 - 57896044618658097711785492504343953926634992332820282019728792003956564819968 * s4, by omega, ?_, ?_⟩ <;> unfold F <;> omega
theorem yval {y0 x1 x2 x3 x4 y1 y2 y3 y4 : Int} (e1 : y1 = x1 + y0 / 2251799813685248) (e2 : y2 = x2 + y1 / 2251799813685248) (e3 : y3 = x3 + y2 / 2251799813685248) (e4 : y4 = x4 + y3 / 2251799813685248) :
    F (y0 % 2251799813685248) (y1 % 2251799813685248) (y2 % 2251799813685248) (y3 % 2251799813685248) (y4 % 2251799813685248) = F y0 x1 x2 x3 x4 - 57896044618658097711785492504343953926634992332820282019728792003956564819968 * (y4 / 2251799813685248) := by
  unfold F; omega
theorem yb {z0 z1 z2 z3 z4 : Int} : 0 ≤ F (z0 % 2251799813685248) (z1 % 2251799813685248) (z2 % 2251799813685248) (z3 % 2251799813685248) (z4 % 2251799813685248) ∧ F (z0 % 2251799813685248) (z1 % 2251799813685248) (z2 % 2251799813685248) (z3 % 2251799813685248) (z4 % 2251799813685248) < 57896044618658097711785492504343953926634992332820282019728792003956564819968 := by
  constructor <;> unfold F <;> omega
theorem yq {x v c : Int} (hx : 0 ≤ x ∧ x < 2251799813685300) (hc : 0 ≤ c ∧ c ≤ 1) (e : v = x + c) : (0 ≤ v ∧ v < 4503599627370496) ∧ (0 ≤ v / 2251799813685248 ∧ v / 2251799813685248 ≤ 1) := by omega
theorem fin_ {N s R Y c m Q : Int} (hs : 0 ≤ s ∧ s ≤ 1) (hN : N < 57896044618659000000000000000000000000000000000000000000000000000000000000000) (hR : N + 19 = 57896044618658097711785492504343953926634992332820282019728792003956564819968 * s + R) (hR0 : 0 ≤ R ∧ R < 57896044618658097711785492504343953926634992332820282019728792003956564819968)
    (hY : Y = N + 19 * s - 57896044618658097711785492504343953926634992332820282019728792003956564819968 * c) (hY0 : 0 ≤ Y ∧ Y < 57896044618658097711785492504343953926634992332820282019728792003956564819968) (h0 : 0 ≤ N) (hm : N = m + p * Q) : Y = m % p := by
  have hc : c = s := by
    rcases (show s = 0 ∨ s = 1 by omega) with h | h <;> subst h <;> omega
  have hY1 : Y < 57896044618658097711785492504343953926634992332820282019728792003956564819949 := by
    rcases (show s = 0 ∨ s = 1 by omega) with h | h <;> subst h <;> omega
  refine (emod_of (q := s - Q) ?_ hY0.1 hY1).symm
  rw [Int.mul_sub, hY, hc, hm]; unfold p; omega
theorem bytes_spec (k : Nat) (hk : 50 ≤ k) {a : List Int} {m : Int} (h : El a m) : field_Element_Bytes.f k a = some (toB 32 (m % p)) := by
  obtain ⟨k, rfl⟩ := Nat.exists_eq_add_of_le' hk
  obtain ⟨r, x0, x1, x2, x3, x4, Q, c1, c2, b0, b1, b2, b3, b4, e2⟩ := twice h
  obtain ⟨s0, es0⟩ : ∃ s, s = (x0 + 19) / 2251799813685248 := ⟨_, rfl⟩
  obtain ⟨s1, es1⟩ : ∃ s, s = (x1 + s0) / 2251799813685248 := ⟨_, rfl⟩
  obtain ⟨s2, es2⟩ : ∃ s, s = (x2 + s1) / 2251799813685248 := ⟨_, rfl⟩
  obtain ⟨s3, es3⟩ : ∃ s, s = (x3 + s2) / 2251799813685248 := ⟨_, rfl⟩
  obtain ⟨s4, es4⟩ : ∃ s, s = (x4 + s3) / 2251799813685248 := ⟨_, rfl⟩
  have u0 : 0 ≤ s0 ∧ s0 ≤ 1 := qstep b0 (by decide) es0
  have bs : ∀ x : Int, 0 ≤ x ∧ x < 2251799813685250 → 0 ≤ x ∧ x < 2251799813685300 := fun x h => ⟨h.1, Int.lt_trans h.2 (by decide)⟩
  have b19 : ∀ x : Int, 0 ≤ x ∧ x ≤ 1 → 0 ≤ x ∧ x ≤ 19 := fun x h => ⟨h.1, Int.le_trans h.2 (by decide)⟩
  have bw : ∀ x : Int, 0 ≤ x ∧ x ≤ 1 → 0 ≤ x ∧ x < 2251799813947392 := fun x h => ⟨h.1, Int.lt_of_le_of_lt h.2 (by decide)⟩
  have u1 := qstep (bs _ b1) (b19 _ u0) es1
  have u2 := qstep (bs _ b2) (b19 _ u1) es2
  have u3 := qstep (bs _ b3) (b19 _ u2) es3
  have u4 := qstep (bs _ b4) (b19 _ u3) es4
  have t0 := q_step (k + 49) (r := [x0, x1, x2, x3, x4]) (i := 0) (y := s0) (x := x1) (by decide) (by decide) rfl (wd2 b1 (by decide)) (bw _ u0) es1.symm rfl
  have t1 := q_step (k + 48) (r := [x0, x1, x2, x3, x4]) (i := 1) (y := s1) (x := x2) (by decide) (by decide) rfl (wd2 b2 (by decide)) (bw _ u1) es2.symm rfl
  have t2 := q_step (k + 47) (r := [x0, x1, x2, x3, x4]) (i := 2) (y := s2) (x := x3) (by decide) (by decide) rfl (wd2 b3 (by decide)) (bw _ u2) es3.symm rfl
  have t3 := q_step (k + 46) (r := [x0, x1, x2, x3, x4]) (i := 3) (y := s3) (x := x4) (by decide) (by decide) rfl (wd2 b4 (by decide)) (bw _ u3) es4.symm rfl
  obtain ⟨R, hR, hR0⟩ := qval es0 es1 es2 es3 es4
  have hN : 0 ≤ F x0 x1 x2 x3 x4 ∧ F x0 x1 x2 x3 x4 < 57896044618659000000000000000000000000000000000000000000000000000000000000000 := by
    clear hR hR0 es0 es1 es2 es3 es4 e2 t0 t1 t2 t3; constructor <;> unfold F <;> omega
  have es0' := es0
  clear es0 es1 es2 es3 es4
  obtain ⟨y0, ey0⟩ : ∃ y, y = x0 + 19 * s4 := ⟨_, rfl⟩
  obtain ⟨y1, ey1⟩ : ∃ y, y = x1 + y0 / 2251799813685248 := ⟨_, rfl⟩
  obtain ⟨y2, ey2⟩ : ∃ y, y = x2 + y1 / 2251799813685248 := ⟨_, rfl⟩
  obtain ⟨y3, ey3⟩ : ∃ y, y = x3 + y2 / 2251799813685248 := ⟨_, rfl⟩
  obtain ⟨y4, ey4⟩ : ∃ y, y = x4 + y3 / 2251799813685248 := ⟨_, rfl⟩
  have g0 : (0 ≤ y0 ∧ y0 < 4503599627370496) ∧ (0 ≤ y0 / 2251799813685248 ∧ y0 / 2251799813685248 ≤ 1) := by clear hR hR0 hN e2 ey1 ey2 ey3 ey4 t0 t1 t2 t3; omega
  have g1 := yq (bs _ b1) g0.2 ey1
  have g2 := yq (bs _ b2) g1.2 ey2
  have g3 := yq (bs _ b3) g2.2 ey3
  have g4 := yq (bs _ b4) g3.2 ey4
  have q4 : ∀ x : Int, 0 ≤ x ∧ x < 2251799813685250 → 0 ≤ x ∧ x < 4503599627370496 := fun x h => ⟨h.1, Int.lt_trans h.2 (by decide)⟩
  have d0 := c_step (k + 49) (y := [y0, x1, x2, x3, x4]) (i := 0) (u := y0) (v := x1) (by decide) (by decide) rfl rfl g0.1 (q4 _ b1) rfl rfl rfl rfl
  rw [← ey1] at d0
  have d1 := c_step (k + 48) (y := [y0 % 2251799813685248, y1, x2, x3, x4]) (i := 1) (u := y1) (v := x2) (by decide) (by decide) rfl rfl g1.1 (q4 _ b2) rfl rfl rfl rfl
  rw [← ey2] at d1
  have d2 := c_step (k + 47) (y := [y0 % 2251799813685248, y1 % 2251799813685248, y2, x3, x4]) (i := 2) (u := y2) (v := x3) (by decide) (by decide) rfl rfl g2.1 (q4 _ b3) rfl rfl rfl rfl
  rw [← ey3] at d2
  have d3 := c_step (k + 46) (y := [y0 % 2251799813685248, y1 % 2251799813685248, y2 % 2251799813685248, y3, x4]) (i := 3) (u := y3) (v := x4) (by decide) (by decide) rfl rfl g3.1 (q4 _ b4) rfl rfl rfl rfl
  rw [← ey4] at d3
  have mb : ∀ y : Int, 0 ≤ y % 2251799813685248 ∧ y % 2251799813685248 < 2251799813685248 := fun y => ⟨Int.emod_nonneg _ (by decide), Int.emod_lt_of_pos _ (by decide)⟩
  have hp := pack_spec (k + 50) (by omega) (z0 := y0 % 2251799813685248) (z1 := y1 % 2251799813685248) (z2 := y2 % 2251799813685248) (z3 := y3 % 2251799813685248) (z4 := y4) (mb _) (mb _) (mb _) (mb _) g4.1
  have hY := yval ey1 ey2 ey3 ey4
  have hy0 : F y0 x1 x2 x3 x4 = F x0 x1 x2 x3 x4 + 19 * s4 := by rw [ey0]; unfold F; omega
  rw [hy0] at hY
  have hF := fin_ u4 hN.2 hR hR0 hY yb hN.1 e2
  rw [hF] at hp
  refine sbd c1 (sbd c2 (lt_rw (y := s0) ?_ (lt_rw (y := 4) rfl (sbd (t0.trans (t1.trans (t2.trans (t3.trans rfl)))) ?_))))
  · show Int.fdiv (IntKind.u64.wrap (x0 + 19)) (2 ^ 51) = s0
    rw [fd _ _ (by decide), wrap_u64_of (by omega) (by omega)]; exact es0'.symm
  · refine lt_rwl (y := [y0, x1, x2, x3, x4]) ?_ (sbd (a := [y0 % 2251799813685248, y1 % 2251799813685248, y2 % 2251799813685248, y3 % 2251799813685248, y4]) (d0.trans (d1.trans (d2.trans (d3.trans rfl)))) (lt_rwl (y := [(bits .or .u64 (y0 % 2251799813685248) (IntKind.u64.wrap ((y1 % 2251799813685248) * 2 ^ 51))), (bits .or .u64 (Int.fdiv (y1 % 2251799813685248) (2 ^ 13)) (IntKind.u64.wrap ((y2 % 2251799813685248) * 2 ^ 38))), (bits .or .u64 (Int.fdiv (y2 % 2251799813685248) (2 ^ 26)) (IntKind.u64.wrap ((y3 % 2251799813685248) * 2 ^ 25))), (bits .or .u64 (Int.fdiv (y3 % 2251799813685248) (2 ^ 39)) (IntKind.u64.wrap ((bits .and .u64 y4 2251799813685247) * 2 ^ 12)))]) rfl (sbd hp rfl)))
    show [IntKind.u64.wrap (x0 + IntKind.u64.wrap (19 * s4)), x1, x2, x3, x4] = _
    rw [wrap_u64_of (x := 19 * s4) (by omega) (by omega), wrap_u64_of (x := x0 + 19 * s4) (by omega) (by omega), ← ey0]
end Go.Proofs.Ytalnjdcidmkajaa

