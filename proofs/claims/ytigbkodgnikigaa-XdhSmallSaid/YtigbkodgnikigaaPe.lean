/-
  Plain laws of the ladder; XdhBits, XdhSmall.
  Conditions: none.
-/
import Derived.Test.YtigbkodgnikigaaPd
set_option linter.unusedVariables false
namespace Go.Proofs.Ytigbkodgnikigaa
open Go Go.Gx
theorem toB_top (n : Int) (h0 : 0 ≤ n) (h : n < p) : 0 ≤ (toB 32 n).getD 31 0 ∧ (toB 32 n).getD 31 0 < 128 := by
  rw [toB_map, getD_map_range _ _ _ (by decide)]
  have : n / 2 ^ (8 * 31) < 128 := by
    rw [show (2 : Int) ^ (8 * 31) = 452312848583266388373324160190187140051835877600158453279131187530910662656 by decide]
    unfold p at h; omega
  have h2 : 0 ≤ n / 2 ^ (8 * 31) := Int.ediv_nonneg h0 (by decide)
  omega
theorem and127 {x : Int} (h : 0 ≤ x ∧ x < 128) : bits .and .u8 x 127 = x := by
  rw [show (127 : Int) = 2 ^ 7 - 1 by decide, bits_mask .u8 8 (by decide) wraps_u8 7 (by decide) x h.1 (by omega)]
  omega
theorem set_self (l : List Int) (i : Nat) (h : i < l.length) : l.set i (l.getD i 0) = l := by
  have : l.getD i 0 = l[i] := by rw [List.getD_eq_getElem?_getD, List.getElem?_eq_getElem h]; rfl
  rw [this]; exact List.set_getElem_self h
theorem low_toB (n : Int) : low (toB 32 (n % p)) = toB 32 (n % p) := by
  unfold low
  rw [and127 (toB_top _ (mp n).1 (mp n).2), set_self _ _ (by rw [toB_length]; decide)]
theorem and248 (a l : Nat) : (a ^^^ (l &&& 7)) &&& 248 = a &&& 248 := by
  rw [Nat.and_xor_distrib_right, Nat.and_assoc, show 7 &&& 248 = 0 by decide, Nat.and_zero, Nat.xor_zero]
theorem and127x (a : Nat) : (a ^^^ 128) &&& 127 = a &&& 127 := by
  rw [Nat.and_xor_distrib_right, show 128 &&& 127 = 0 by decide, Nat.xor_zero]
theorem or64 (a l : Nat) : ((a ^^^ (l &&& 192)) &&& 127) ||| 64 = (a &&& 127) ||| 64 := by
  rw [Nat.and_xor_distrib_right, Nat.and_assoc, show 192 &&& 127 = 64 by decide]
  apply Nat.eq_of_testBit_eq
  intro i
  simp only [Nat.testBit_or, Nat.testBit_xor, Nat.testBit_and]
  cases Nat.testBit 64 i <;> simp
theorem clamp_x {a : List Int} (h : By a 32) {l m : Int} (hl : 0 ≤ l ∧ l < 256) (hm : 0 ≤ m ∧ m < 256) :
    clamp ((a.set 0 (bits .xor .u8 (a.getD 0 0) (bits .and .u8 l 7))).set 31 (bits .xor .u8 ((a.set 0 (bits .xor .u8 (a.getD 0 0) (bits .and .u8 l 7))).getD 31 0) (bits .and .u8 m 192))) = clamp a := by
  obtain ⟨x, ex, hx⟩ := u8_nat (getD_u8 a h.2 0)
  obtain ⟨y, ey, hy⟩ := u8_nat (getD_u8 a h.2 31)
  obtain ⟨l, rfl, hl'⟩ := u8_nat hl
  obtain ⟨m, rfl, hm'⟩ := u8_nat hm
  have g31 : ∀ v, (a.set 0 v).getD 31 0 = a.getD 31 0 := fun v => by
    rw [List.getD_eq_getElem?_getD, List.getD_eq_getElem?_getD, List.getElem?_set_ne (by decide)]
  have g0 : ∀ u v, ((a.set 0 u).set 31 v).getD 0 0 = u := fun u v => by
    rw [List.getD_eq_getElem?_getD, List.getElem?_set_ne (by decide), List.getElem?_set_self (by rw [h.1]; decide)]; rfl
  have g31' : ∀ (b : List Int) v, b.length = 32 → (b.set 31 v).getD 31 0 = v := fun b v hb => by
    rw [List.getD_eq_getElem?_getD, List.getElem?_set_self (by rw [hb]; decide)]; rfl
  have b1 : bits .xor .u8 (a.getD 0 0) (bits .and .u8 (l : Int) 7) = ((x ^^^ (l &&& 7) : Nat) : Int) := by
    rw [ex, show (7 : Int) = ((7 : Nat) : Int) from rfl, and_u8 l 7 hl' (by decide), xor_u8 x _ hx (Nat.and_lt_two_pow _ (by decide))]
  have b2 : bits .xor .u8 (a.getD 31 0) (bits .and .u8 (m : Int) 192) = ((y ^^^ (m &&& 192) : Nat) : Int) := by
    rw [ey, show (192 : Int) = ((192 : Nat) : Int) from rfl, and_u8 m 192 hm' (by decide), xor_u8 y _ hy (Nat.and_lt_two_pow _ (by decide))]
  rw [g31, b1, b2]
  unfold clamp
  rw [g0]
  have c1 : bits .and .u8 ((x ^^^ (l &&& 7) : Nat) : Int) 248 = bits .and .u8 (a.getD 0 0) 248 := by
    rw [ex, show (248 : Int) = ((248 : Nat) : Int) from rfl, and_u8 _ 248 (Nat.xor_lt_two_pow hx (Nat.and_lt_two_pow _ (by decide))) (by decide), and_u8 x 248 hx (by decide), and248]
  rw [c1, List.set_comm _ _ (show (31 : Nat) ≠ 0 by decide), List.set_set, g31, g31' _ _ (by rw [List.length_set, List.length_set]; exact h.1), List.set_set]
  congr 1
  rw [ey, show (127 : Int) = ((127 : Nat) : Int) from rfl, show (64 : Int) = ((64 : Nat) : Int) from rfl, and_u8 _ 127 (Nat.xor_lt_two_pow hy (Nat.and_lt_two_pow _ (by decide))) (by decide), and_u8 y 127 hy (by decide),
    or_u8 _ 64 (Nat.and_lt_two_pow _ (by decide)) (by decide), or_u8 _ 64 (Nat.and_lt_two_pow _ (by decide)) (by decide), or64]
theorem low_x {a : List Int} (h : By a 32) : low (a.set 31 (bits .xor .u8 (a.getD 31 0) 128)) = low a := by
  obtain ⟨y, ey, hy⟩ := u8_nat (getD_u8 a h.2 31)
  have g31' : ∀ v, (a.set 31 v).getD 31 0 = v := fun v => by
    rw [List.getD_eq_getElem?_getD, List.getElem?_set_self (by rw [h.1]; decide)]; rfl
  unfold low
  rw [g31', List.set_set]
  congr 1
  rw [ey, show (128 : Int) = ((128 : Nat) : Int) from rfl, show (127 : Int) = ((127 : Nat) : Int) from rfl, xor_u8 y 128 hy (by decide), and_u8 _ 127 (Nat.xor_lt_two_pow hy (by decide)) (by decide), and_u8 y 127 hy (by decide), and127x]
theorem xor_by {x y : Int} (hx : 0 ≤ x ∧ x < 256) (hy : 0 ≤ y ∧ y < 256) : 0 ≤ bits .xor .u8 x y ∧ bits .xor .u8 x y < 256 := by
  obtain ⟨n, rfl, hn⟩ := u8_nat hx
  obtain ⟨m, rfl, hm⟩ := u8_nat hy
  rw [xor_u8 n m hn hm]
  have := Nat.xor_lt_two_pow hn hm
  omega
/-! ### Points of small order -/
theorem zero_pow2 : (0 : Int) ^ P2 = 0 := Int.zero_pow (by decide)
theorem lad0 (l : List Int) : ∀ n, ((lad l 0 n).b = 0 ∧ (lad l 0 n).c = 0) ∨ ((lad l 0 n).a = 0 ∧ (lad l 0 n).d = 0) := by
  intro n
  induction n with
  | zero => exact .inl ⟨rfl, rfl⟩
  | succ n ih =>
    rw [lad]
    generalize lad l 0 n = s at *
    obtain ⟨a, b, c, d⟩ := s
    rcases bitL_01 l (254 - n) with h | h <;> rw [h] <;> rcases ih with ⟨h1, h2⟩ | ⟨h1, h2⟩ <;> simp only at h1 h2 <;> subst h1 <;> subst h2
    · left; (constructor <;> simp [sw, stp]) <;> grind
    · left; (constructor <;> simp [sw, stp]) <;> grind
    · right; (constructor <;> simp [sw, stp]) <;> grind
    · right; (constructor <;> simp [sw, stp]) <;> grind
/-- where the ladder stands, by the bits behind -/
def Tor (σ : Int) (q : Nat) (s : S4) : Prop :=
  (q = 0 ∧ s.b = 0 ∧ s.c = σ * s.d) ∨ (q = 1 ∧ s.a = σ * s.b ∧ s.c = 0) ∨ (q = 2 ∧ s.a = 0 ∧ s.c = σ * s.d) ∨ (q = 3 ∧ s.a = σ * s.b ∧ s.d = 0)
theorem tor_step (σ : Int) (hσ : σ = 1 ∨ σ = -1) (q : Nat) (s : S4) (t : Int) (ht : t = 0 ∨ t = 1) (h : Tor σ q s) : ∃ q', (t = 0 → q' % 2 = 0 ∧ (q % 2 = 0 → q' = 0)) ∧ Tor σ q' (sw t (stp σ (sw t s))) := by
  obtain ⟨a, b, c, d⟩ := s
  unfold Tor at h
  simp only at h
  rcases h with ⟨rfl, h1, h2⟩ | ⟨rfl, h1, h2⟩ | ⟨rfl, h1, h2⟩ | ⟨rfl, h1, h2⟩ <;> rcases ht with rfl | rfl <;> rcases hσ with rfl | rfl <;> subst h1 <;> subst h2
  · refine ⟨0, by simp, ?_⟩; left; (simp [sw, stp]; try (first | grind | (constructor <;> grind)))
  · refine ⟨0, by simp, ?_⟩; left; (simp [sw, stp]; try (first | grind | (constructor <;> grind)))
  · refine ⟨1, by simp, ?_⟩; right; left; (simp [sw, stp]; try (first | grind | (constructor <;> grind)))
  · refine ⟨1, by simp, ?_⟩; right; left; (simp [sw, stp]; try (first | grind | (constructor <;> grind)))
  · refine ⟨2, by simp, ?_⟩; right; right; left; (simp [sw, stp]; try (first | grind | (constructor <;> grind)))
  · refine ⟨2, by simp, ?_⟩; right; right; left; (simp [sw, stp]; try (first | grind | (constructor <;> grind)))
  · refine ⟨3, by simp, ?_⟩; right; right; right; (simp [sw, stp]; try (first | grind | (constructor <;> grind)))
  · refine ⟨3, by simp, ?_⟩; right; right; right; (simp [sw, stp]; try (first | grind | (constructor <;> grind)))
  · refine ⟨0, by simp, ?_⟩; left; (simp [sw, stp]; try (first | grind | (constructor <;> grind)))
  · refine ⟨0, by simp, ?_⟩; left; (simp [sw, stp]; try (first | grind | (constructor <;> grind)))
  · refine ⟨1, by simp, ?_⟩; right; left; (simp [sw, stp]; try (first | grind | (constructor <;> grind)))
  · refine ⟨1, by simp, ?_⟩; right; left; (simp [sw, stp]; try (first | grind | (constructor <;> grind)))
  · refine ⟨2, by simp, ?_⟩; right; right; left; (simp [sw, stp]; try (first | grind | (constructor <;> grind)))
  · refine ⟨2, by simp, ?_⟩; right; right; left; (simp [sw, stp]; try (first | grind | (constructor <;> grind)))
  · refine ⟨3, by simp, ?_⟩; right; right; right; (simp [sw, stp]; try (first | grind | (constructor <;> grind)))
  · refine ⟨3, by simp, ?_⟩; right; right; right; (simp [sw, stp]; try (first | grind | (constructor <;> grind)))
end Go.Proofs.Ytigbkodgnikigaa

namespace Go.Proofs.Ytigbkodgnikigaa
open Go Go.Gx
theorem clamp_low {a : List Int} (h : By a 32) : bitL (clamp a) 0 = 0 ∧ bitL (clamp a) 1 = 0 := by
  obtain ⟨x, ex, hx⟩ := u8_nat (getD_u8 a h.2 0)
  have e : (clamp a).getD 0 0 = ((x &&& 248 : Nat) : Int) := by
    unfold clamp
    rw [List.getD_eq_getElem?_getD, List.getElem?_set_ne (by decide), List.getElem?_set_self (by rw [h.1]; decide), ex, show (248 : Int) = ((248 : Nat) : Int) from rfl, and_u8 x 248 hx (by decide)]; rfl
  have h8 : (x &&& 248) % 8 = 0 := by
    rw [show 8 = 2 ^ 3 from rfl, ← Nat.and_two_pow_sub_one_eq_mod, Nat.and_assoc, show 248 &&& (2 ^ 3 - 1) = 0 by decide, Nat.and_zero]
  show (clamp a).getD 0 0 / 2 ^ 0 % 2 = 0 ∧ (clamp a).getD 0 0 / 2 ^ 1 % 2 = 0
  rw [e]
  generalize x &&& 248 = y at *
  constructor
  · show (y : Int) / 1 % 2 = 0; omega
  · show (y : Int) / 2 % 2 = 0; omega
theorem tor_all (l : List Int) (σ : Int) (hσ : σ = 1 ∨ σ = -1) : ∀ n, ∃ q, Tor σ q (lad l σ n) := by
  intro n
  induction n with
  | zero => exact ⟨0, .inl ⟨rfl, rfl, by show σ = σ * 1; rw [Int.mul_one]⟩⟩
  | succ n ih =>
    obtain ⟨q, hq⟩ := ih
    obtain ⟨q', _, h⟩ := tor_step σ hσ q _ (bitL l (254 - n)) (bitL_01 _ _) hq
    exact ⟨q', h⟩
theorem tor_end {a : List Int} (h : By a 32) (σ : Int) (hσ : σ = 1 ∨ σ = -1) : res (clamp a) σ = 0 := by
  obtain ⟨q, hq⟩ := tor_all (clamp a) σ hσ 253
  have hl := clamp_low h
  obtain ⟨q1, h1, t1⟩ := tor_step σ hσ q _ (bitL (clamp a) 1) (bitL_01 _ _) hq
  have e1 : lad (clamp a) σ 254 = sw (bitL (clamp a) 1) (stp σ (sw (bitL (clamp a) 1) (lad (clamp a) σ 253))) := rfl
  rw [← e1] at t1
  obtain ⟨q2, h2, t2⟩ := tor_step σ hσ q1 _ (bitL (clamp a) 0) (bitL_01 _ _) t1
  have e2 : lad (clamp a) σ 255 = sw (bitL (clamp a) 0) (stp σ (sw (bitL (clamp a) 0) (lad (clamp a) σ 254))) := rfl
  rw [← e2] at t2
  have q0 : q2 = 0 := (h2 hl.1).2 (h1 hl.2).1
  subst q0
  have hb : (lad (clamp a) σ 255).b = 0 := by
    unfold Tor at t2
    rcases t2 with ⟨_, h, _⟩ | ⟨h, _⟩ | ⟨h, _⟩ | ⟨h, _⟩
    · exact h
    · cases h
    · cases h
    · cases h
  unfold res
  rw [hb, zero_pow2, Int.mul_zero]
theorem res_zero (l : List Int) : res l 0 = 0 := by
  unfold res
  rcases lad0 l 255 with ⟨h, _⟩ | ⟨h, _⟩
  · rw [h, zero_pow2, Int.mul_zero]
  · rw [h, Int.zero_mul]
end Go.Proofs.Ytigbkodgnikigaa
namespace Go.Proofs.Ytigbkodgnikigaa.xdhSmall
open Go Go.Gx
theorem pure_law (a0 : List Int) (la0 : a0.length = 32) (w0 : ∀ x ∈ a0, IntKind.u8.has x) (a1 : Int) (w1 : IntKind.u8.has a1) : ∃ k, postilionlaw08_XdhSmall.f k a0 a1 = some true := by
  refine ⟨1000, ?_⟩
  generalize hk' : 1000 = k
  have hk : 300 ≤ k := by omega
  have ha : By a0 32 := ⟨la0, w0⟩
  have hw := u8_b w1
  have key : ∀ u x, By u 32 → x % p = B (low u) % p → res (clamp a0) x = 0 → xdh_Shared.f k a0 u = some (List.replicate 32 (0 : Int), 2) := fun u x hu hx hr => by
    have e := xmul_spec k hk ha hu x hx
    rw [hr, Int.zero_emod, ← Int.zero_emod p, ← z_toB] at e
    unfold xdh_Shared.f
    exact sbd e (sbt (beq_self_eq_true _) rfl)
  have hone : By ((List.replicate 32 (0 : Int)).set 0 1) 32 := (By.zero 32).set 0 (by decide)
  obtain ⟨u, e1, e2⟩ : ∃ u, postilionlaw08_XdhSmall.p1 k a1 = some u ∧ xdh_Shared.f k a0 u = some (List.replicate 32 (0 : Int), 2) := by
    unfold postilionlaw08_XdhSmall.p1
    by_cases h : Int.tmod a1 3 = 2
    · have e := ref.sub_law k (by omega) (By.zero 32) hone
      rw [show B (List.replicate 32 (0 : Int)) = 0 by decide, show B ((List.replicate 32 (0 : Int)).set 0 1) = 1 by decide] at e
      refine ⟨_, sbt (beq_iff_eq.2 h) (sbd e rfl), key _ (-1) (By.toB 32 _) ?_ (tor_end ha _ (.inr rfl))⟩
      rw [low_toB, B_small, Int.emod_emod]; rfl
    · refine ⟨_, sbf (beq_eq_false_iff_ne.2 h) rfl, ?_⟩
      have h2 : Int.tmod a1 2 = 0 ∨ Int.tmod a1 2 = 1 := by rw [Int.tmod_eq_emod_of_nonneg hw.1]; omega
      rcases h2 with h2 | h2 <;> rw [h2]
      · exact key _ 0 ((By.zero 32).set 0 (by decide)) (by decide) (res_zero _)
      · exact key _ 1 hone (by decide) (tor_end ha _ (.inl rfl))
  unfold postilionlaw08_XdhSmall.f
  exact sbd (awake_law k hk) (sbf rfl (sbd e1 (sbd e2 (lt_rw (y := 2) rfl (sbd (a := true) rfl rfl)))))
end Go.Proofs.Ytigbkodgnikigaa.xdhSmall
namespace Go.Proofs.Ytigbkodgnikigaa.xdhBits
open Go Go.Gx
theorem pure_law (a0 : List Int) (la0 : a0.length = 32) (w0 : ∀ x ∈ a0, IntKind.u8.has x) (a1 : List Int) (la1 : a1.length = 32) (w1 : ∀ x ∈ a1, IntKind.u8.has x) (a2 : Int) (w2 : IntKind.u8.has a2) (a3 : Int) (w3 : IntKind.u8.has a3) : ∃ k, postilionlaw08_XdhBits.f k a0 a1 a2 a3 = some true := by
  refine ⟨1000, ?_⟩
  generalize hk' : 1000 = k
  have hk : 300 ≤ k := by omega
  have ha : By a0 32 := ⟨la0, w0⟩
  have hb : By a1 32 := ⟨la1, w1⟩
  have h2 := u8_b w2
  have h3 := u8_b w3
  obtain ⟨x6, e6⟩ : ∃ x6, x6 = a0.set 0 (bits .xor .u8 (a0.getD 0 0) (bits .and .u8 a2 7)) := ⟨_, rfl⟩
  obtain ⟨x7, e7⟩ : ∃ x7, x7 = x6.set 31 (bits .xor .u8 (x6.getD 31 0) (bits .and .u8 a3 192)) := ⟨_, rfl⟩
  have hx6 : By x6 32 := by rw [e6]; exact ha.set 0 (xor_by (getD_u8 a0 w0 0) (and_b h2 (by decide)))
  have hx7 : By x7 32 := by rw [e7]; exact hx6.set 31 (xor_by (getD_u8 x6 hx6.2 31) (and_b h3 (by decide)))
  have hc : clamp x7 = clamp a0 := by rw [e7, e6]; exact clamp_x ha h2 h3
  have e8 := xmul_spec k hk ha hb (B (low a1)) rfl
  have e9 := ref.add_law k (by omega) (low_by hb) (By.zero 32)
  rw [show B (List.replicate 32 (0 : Int)) = 0 by decide, Int.add_zero] at e9
  have e10 := xmul_spec k hk hx7 (hb.set 31 (xor_by (getD_u8 a1 w1 31) (show (0 : Int) ≤ 128 ∧ (128 : Int) < 256 by decide))) (B (low a1)) (by rw [low_x hb])
  rw [hc] at e10
  have e11 := xmul_spec k hk ha (By.toB 32 (B (low a1) % p)) (B (low a1)) (by rw [low_toB, B_small, Int.emod_emod])
  have e12 := ref.canonical_law k (by omega) (By.toB 32 (res (clamp a0) (B (low a1)) % p))
  rw [B_small, decide_eq_true (mp _).2] at e12
  unfold postilionlaw08_XdhBits.f
  refine sbd (awake_law k hk) (sbf rfl (lt_rwl (y := x6) e6.symm (lt_rwl (y := x7) e7.symm (sbd e8 (sbd e9 (sbd (a := true) ?_ rfl))))))
  unfold postilionlaw08_XdhBits.p1
  exact sbd e10 (sbt (beq_self_eq_true _) (sbd e11 (sbt (beq_self_eq_true _) (sbd e12 rfl))))
end Go.Proofs.Ytigbkodgnikigaa.xdhBits

