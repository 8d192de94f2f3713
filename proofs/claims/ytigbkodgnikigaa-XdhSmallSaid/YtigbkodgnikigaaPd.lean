/-
  Plain laws of the ladder; XdhMuls.
  Conditions: none.
-/
import Derived.Test.YtigbkodgnikigaaPc
set_option linter.unusedVariables false
namespace Go.Proofs.Ytigbkodgnikigaa
open Go Go.Gx
theorem xor_u64 (a b : Nat) (ha : a < 2 ^ 64) (hb : b < 2 ^ 64) : bits .xor .u64 a b = ((a ^^^ b : Nat) : Int) := by
  have ha' : a % 2 ^ IntKind.u64.bits = a := Nat.mod_eq_of_lt ha
  have hb' : b % 2 ^ IntKind.u64.bits = b := Nat.mod_eq_of_lt hb
  simp only [bits, BitVec.ofInt_natCast, BitVec.toNat_xor, BitVec.toNat_ofNat, ha', hb']
  have := Nat.xor_lt_two_pow ha hb
  exact wrap_u64_of (Int.natCast_nonneg _) (by omega)
theorem xor_u8 (a b : Nat) (ha : a < 2 ^ 8) (hb : b < 2 ^ 8) : bits .xor .u8 a b = ((a ^^^ b : Nat) : Int) := by
  have ha' : a % 2 ^ IntKind.u8.bits = a := Nat.mod_eq_of_lt ha
  have hb' : b % 2 ^ IntKind.u8.bits = b := Nat.mod_eq_of_lt hb
  simp only [bits, BitVec.ofInt_natCast, BitVec.toNat_xor, BitVec.toNat_ofNat, ha', hb']
  have := Nat.xor_lt_two_pow ha hb
  rw [IntKind.wrap_u8]; omega
theorem and_u8 (a b : Nat) (ha : a < 2 ^ 8) (hb : b < 2 ^ 8) : bits .and .u8 a b = ((a &&& b : Nat) : Int) := (bits_nat .u8 8 (by decide) wraps_u8 a b ha hb).1
theorem or_u8 (a b : Nat) (ha : a < 2 ^ 8) (hb : b < 2 ^ 8) : bits .or .u8 a b = ((a ||| b : Nat) : Int) := (bits_nat .u8 8 (by decide) wraps_u8 a b ha hb).2
/-- One pair of words of a conditional exchange. -/
theorem sw_word {u v : Int} (hu : 0 ≤ u ∧ u < 18446744073709551616) (hv : 0 ≤ v ∧ v < 18446744073709551616) (t : Int) (ht : t = 0 ∨ t = 1) :
    bits .xor .u64 u (bits .and .u64 (IntKind.u64.wrap (0 - t)) (bits .xor .u64 u v)) = (if t = 1 then v else u) ∧ bits .xor .u64 v (bits .and .u64 (IntKind.u64.wrap (0 - t)) (bits .xor .u64 u v)) = (if t = 1 then u else v) := by
  obtain ⟨a, rfl⟩ := Int.eq_ofNat_of_zero_le hu.1
  obtain ⟨b, rfl⟩ := Int.eq_ofNat_of_zero_le hv.1
  have ha : a < 2 ^ 64 := by omega
  have hb : b < 2 ^ 64 := by omega
  have hx := Nat.xor_lt_two_pow ha hb
  rw [xor_u64 a b ha hb]
  rcases ht with rfl | rfl
  · have e : IntKind.u64.wrap (0 - 0) = ((0 : Nat) : Int) := by decide
    rw [e, (bits_nat .u64 64 (by decide) (fun _ h h' => wrap_u64_of h h') 0 (a ^^^ b) (by decide) hx).1, Nat.zero_and, xor_u64 a 0 ha (by decide), xor_u64 b 0 hb (by decide)]
    simp
  · have e : IntKind.u64.wrap (0 - 1) = ((2 ^ 64 - 1 : Nat) : Int) := by decide
    rw [e, (bits_nat .u64 64 (by decide) (fun _ h h' => wrap_u64_of h h') (2 ^ 64 - 1) (a ^^^ b) (by decide) hx).1]
    have e2 : (2 ^ 64 - 1) &&& (a ^^^ b) = a ^^^ b := by
      rw [Nat.and_comm, Nat.and_two_pow_sub_one_eq_mod, Nat.mod_eq_of_lt hx]
    rw [e2, xor_u64 a _ ha hx, xor_u64 b _ hb hx]
    refine ⟨?_, ?_⟩
    · rw [← Nat.xor_assoc, Nat.xor_self, Nat.zero_xor]; rfl
    · rw [Nat.xor_comm a b, ← Nat.xor_assoc, Nat.xor_self, Nat.zero_xor]; rfl
theorem swap_step (k : Nat) {y1 y2 z1 z2 : List Int} {t i i' u v : Int} (ht : t = 0 ∨ t = 1) (hi : 0 ≤ i) (hi5 : i < 5) (eu : y1.getD i.toNat 0 = u) (ev : y2.getD i.toNat 0 = v) (hu : 0 ≤ u ∧ u < 18446744073709551616) (hv : 0 ≤ v ∧ v < 18446744073709551616)
    (e1 : y1.set i.toNat (if t = 1 then v else u) = z1) (e2 : y2.set i.toNat (if t = 1 then u else v) = z2) (ei : i + 1 = i') : xdh_swap.p1 (k + 1) t y1 y2 i = xdh_swap.p1 k t z1 z2 i' := by
  subst eu ev ei
  obtain ⟨h1, h2⟩ := sw_word hu hv t ht
  rw [xdh_swap.p1, decide_eq_true hi5]
  show chk _ _ = _
  rw [chk_pos ⟨hi, hi5⟩]
  refine lt_rw rfl (lt_rwl (y := z1) (by rw [h1]; exact e1) (lt_rwl (y := z2) (by rw [h2]; exact e2) (lt_rw (wrap_i64_of (by omega) (by omega)) rfl)))
theorem El.wd {x : Int} (h : 0 ≤ x ∧ x < 2251799813947392) : 0 ≤ x ∧ x < 18446744073709551616 := ⟨h.1, by omega⟩
theorem swap_spec (k : Nat) (hk : 6 ≤ k) {a b : List Int} {m n : Int} (ha : El a m) (hb : El b n) (t : Int) (ht : t = 0 ∨ t = 1) :
    xdh_swap.f k t a b = some (if t = 1 then (b, a) else (a, b)) := by
  obtain ⟨k, rfl⟩ := Nat.exists_eq_add_of_le' hk
  obtain ⟨x0, x1, x2, x3, x4, q, rfl, a0, a1, a2, a3, a4, e⟩ := ha
  obtain ⟨y0, y1, y2, y3, y4, q', rfl, b0, b1, b2, b3, b4, e'⟩ := hb
  unfold xdh_swap.f
  rcases ht with rfl | rfl
  · have s0 := swap_step (k + 5) (y1 := [x0, x1, x2, x3, x4]) (y2 := [y0, y1, y2, y3, y4]) (t := 0) (i := 0) (.inl rfl) (by decide) (by decide) rfl rfl (El.wd a0) (El.wd b0) rfl rfl rfl
    have s1 := swap_step (k + 4) (y1 := [x0, x1, x2, x3, x4]) (y2 := [y0, y1, y2, y3, y4]) (t := 0) (i := 1) (.inl rfl) (by decide) (by decide) rfl rfl (El.wd a1) (El.wd b1) rfl rfl rfl
    have s2 := swap_step (k + 3) (y1 := [x0, x1, x2, x3, x4]) (y2 := [y0, y1, y2, y3, y4]) (t := 0) (i := 2) (.inl rfl) (by decide) (by decide) rfl rfl (El.wd a2) (El.wd b2) rfl rfl rfl
    have s3 := swap_step (k + 2) (y1 := [x0, x1, x2, x3, x4]) (y2 := [y0, y1, y2, y3, y4]) (t := 0) (i := 3) (.inl rfl) (by decide) (by decide) rfl rfl (El.wd a3) (El.wd b3) rfl rfl rfl
    have s4 := swap_step (k + 1) (y1 := [x0, x1, x2, x3, x4]) (y2 := [y0, y1, y2, y3, y4]) (t := 0) (i := 4) (.inl rfl) (by decide) (by decide) rfl rfl (El.wd a4) (El.wd b4) rfl rfl rfl
    exact sbd (s0.trans (s1.trans (s2.trans (s3.trans (s4.trans rfl))))) rfl
  · have s0 := swap_step (k + 5) (y1 := [x0, x1, x2, x3, x4]) (y2 := [y0, y1, y2, y3, y4]) (t := 1) (i := 0) (.inr rfl) (by decide) (by decide) rfl rfl (El.wd a0) (El.wd b0) rfl rfl rfl
    have s1 := swap_step (k + 4) (y1 := [y0, x1, x2, x3, x4]) (y2 := [x0, y1, y2, y3, y4]) (t := 1) (i := 1) (.inr rfl) (by decide) (by decide) rfl rfl (El.wd a1) (El.wd b1) rfl rfl rfl
    have s2 := swap_step (k + 3) (y1 := [y0, y1, x2, x3, x4]) (y2 := [x0, x1, y2, y3, y4]) (t := 1) (i := 2) (.inr rfl) (by decide) (by decide) rfl rfl (El.wd a2) (El.wd b2) rfl rfl rfl
    have s3 := swap_step (k + 2) (y1 := [y0, y1, y2, x3, x4]) (y2 := [x0, x1, x2, y3, y4]) (t := 1) (i := 3) (.inr rfl) (by decide) (by decide) rfl rfl (El.wd a3) (El.wd b3) rfl rfl rfl
    have s4 := swap_step (k + 1) (y1 := [y0, y1, y2, y3, x4]) (y2 := [x0, x1, x2, x3, y4]) (t := 1) (i := 4) (.inr rfl) (by decide) (by decide) rfl rfl (El.wd a4) (El.wd b4) rfl rfl rfl
    exact sbd (s0.trans (s1.trans (s2.trans (s3.trans (s4.trans rfl))))) rfl
/-! ### The ladder -/
structure S4 where
  a : Int
  b : Int
  c : Int
  d : Int
def stp (x : Int) (s : S4) : S4 :=
  ⟨(s.a + s.b) * (s.a + s.b) * ((s.a - s.b) * (s.a - s.b)),
   ((s.a + s.b) * (s.a + s.b) - (s.a - s.b) * (s.a - s.b)) * ((s.a + s.b) * (s.a + s.b) + 121665 * ((s.a + s.b) * (s.a + s.b) - (s.a - s.b) * (s.a - s.b))),
   ((s.c - s.d) * (s.a + s.b) + (s.c + s.d) * (s.a - s.b)) * ((s.c - s.d) * (s.a + s.b) + (s.c + s.d) * (s.a - s.b)),
   ((s.c - s.d) * (s.a + s.b) - (s.c + s.d) * (s.a - s.b)) * ((s.c - s.d) * (s.a + s.b) - (s.c + s.d) * (s.a - s.b)) * x⟩
def sw (t : Int) (s : S4) : S4 := if t = 1 then ⟨s.c, s.d, s.a, s.b⟩ else s
def bitL (l : List Int) (i : Nat) : Int := l.getD (i / 8) 0 / 2 ^ (i % 8) % 2
theorem bitL_01 (l : List Int) (i : Nat) : bitL l i = 0 ∨ bitL l i = 1 := by unfold bitL; omega
def lad (l : List Int) (x : Int) : Nat → S4
  | 0 => ⟨1, 0, x, 1⟩
  | n + 1 => sw (bitL l (254 - n)) (stp x (sw (bitL l (254 - n)) (lad l x n)))
theorem sw_sw (t : Int) (s : S4) : sw t (sw t s) = s := by unfold sw; split <;> rfl
def xr (s t : Int) : Int := if s = t then 0 else 1
theorem xr_01 (s t : Int) : xr s t = 0 ∨ xr s t = 1 := by unfold xr; split <;> simp
theorem xor_01 {s t : Int} (hs : s = 0 ∨ s = 1) (ht : t = 0 ∨ t = 1) : bits .xor .u64 s t = xr s t := by
  rcases hs with rfl | rfl <;> rcases ht with rfl | rfl <;> decide
theorem sw_xr {s t : Int} (hs : s = 0 ∨ s = 1) (ht : t = 0 ∨ t = 1) (S : S4) : sw (xr s t) (sw t S) = sw s S := by
  rcases hs with rfl | rfl <;> rcases ht with rfl | rfl <;> rfl
/-- four elements that are a state -/
def E4 (l1 l2 l3 l4 : List Int) (s : S4) : Prop := El l1 s.a ∧ El l2 s.b ∧ El l3 s.c ∧ El l4 s.d
theorem swap2_spec (k : Nat) (hk : 6 ≤ k) {l1 l2 l3 l4 : List Int} {s : S4} (h : E4 l1 l2 l3 l4 s) (t : Int) (ht : t = 0 ∨ t = 1) :
    ∃ r q, xdh_swap.f k t l1 l3 = some r ∧ xdh_swap.f k t l2 l4 = some q ∧ E4 r.1 q.1 r.2 q.2 (sw t s) := by
  refine ⟨_, _, swap_spec k hk h.1 h.2.2.1 t ht, swap_spec k hk h.2.1 h.2.2.2 t ht, ?_⟩
  rcases ht with rfl | rfl
  · exact h
  · exact ⟨h.2.2.1, h.2.2.2, h.1, h.2.1⟩
theorem byte_bit {l : List Int} (hl : ∀ x ∈ l, IntKind.u8.has x) (i : Nat) :
    IntKind.u64.wrap (bits .and .u8 (Int.fdiv (l.getD (i / 8) 0) (2 ^ (i % 8))) 1) = bitL l i ∧ bits .and .u8 (Int.fdiv (l.getD (i / 8) 0) (2 ^ (i % 8))) 1 = bitL l i := by
  have hb := getD_u8 l hl (i / 8)
  have hd : 0 ≤ l.getD (i / 8) 0 / 2 ^ (i % 8) ∧ l.getD (i / 8) 0 / 2 ^ (i % 8) ≤ l.getD (i / 8) 0 :=
    ⟨Int.ediv_nonneg hb.1 (Int.le_of_lt (Int.pow_pos (by decide))), Int.ediv_le_self _ hb.1⟩
  have e : bits .and .u8 (Int.fdiv (l.getD (i / 8) 0) (2 ^ (i % 8))) 1 = bitL l i := by
    rw [fd _ _ (Int.le_of_lt (Int.pow_pos (by decide)))]
    exact bits_mask .u8 8 (by decide) wraps_u8 1 (by decide) _ hd.1 (by omega)
  refine ⟨?_, e⟩
  rw [e]
  rcases bitL_01 l i with h | h <;> rw [h] <;> decide
theorem loop_spec {l5 l6 x4 : List Int} {x : Int} (h5 : El l5 x) (h6 : El l6 121665) (hx4 : ∀ y ∈ x4, IntKind.u8.has y) : ∀ (d k n : Nat) (t : Int) (l1 l2 l3 l4 : List Int), d + n = 255 → d + 10 ≤ k → (t = 0 ∨ t = 1) → E4 l1 l2 l3 l4 (sw t (lad x4 x n)) →
    ∃ t' m1 m2 m3 m4, xdh_Mul.p1 k x4 l5 l6 l1 l2 l3 l4 t ((d : Int) - 1) = some (t', m1, m2, m3, m4) ∧ (t' = 0 ∨ t' = 1) ∧ E4 m1 m2 m3 m4 (sw t' (lad x4 x 255)) := by
  intro d
  induction d with
  | zero =>
    intro k n t l1 l2 l3 l4 hdn hk ht h
    obtain ⟨k, rfl⟩ := Nat.exists_eq_add_of_le' (show 1 ≤ k by omega)
    have : n = 255 := by omega
    subst this
    exact ⟨t, l1, l2, l3, l4, rfl, ht, h⟩
  | succ d ih =>
    intro k n t l1 l2 l3 l4 hdn hk ht h
    obtain ⟨k, rfl⟩ := Nat.exists_eq_add_of_le' (show 1 ≤ k by omega)
    obtain ⟨s, es⟩ : ∃ s, s = bitL x4 d := ⟨_, rfl⟩
    have hs := bitL_01 x4 d
    rw [← es] at hs
    obtain ⟨r24, r25, e24, e25, h1⟩ := swap2_spec k (by omega) h (xr s t) (xr_01 s t)
    rw [sw_xr hs ht] at h1
    obtain ⟨ha, hb, hc, hd⟩ := h1
    obtain ⟨r26, e26, h26⟩ := plus_spec k (by omega) ha hb
    obtain ⟨r27, e27, h27⟩ := minus_spec ha hb
    obtain ⟨r30, e30, h30⟩ := times_spec h26 h26
    obtain ⟨r31, e31, h31⟩ := times_spec h27 h27
    obtain ⟨r34, e34, h34⟩ := minus_spec h30 h31
    obtain ⟨r36, e36, h36⟩ := minus_spec hc hd
    obtain ⟨r37, e37, h37⟩ := times_spec h36 h26
    obtain ⟨r38, e38, h38⟩ := plus_spec k (by omega) hc hd
    obtain ⟨r39, e39, h39⟩ := times_spec h38 h27
    obtain ⟨r42, e42, h42⟩ := plus_spec k (by omega) h37 h39
    obtain ⟨r43, e43, h43⟩ := minus_spec h37 h39
    obtain ⟨r46, e46, h46⟩ := times_spec h42 h42
    obtain ⟨r47, e47, h47⟩ := times_spec h43 h43
    obtain ⟨r48, e48, h48⟩ := times_spec h47 h5
    obtain ⟨r49, e49, h49⟩ := times_spec h30 h31
    obtain ⟨r50, e50, h50⟩ := times_spec h6 h34
    obtain ⟨r51, e51, h51⟩ := plus_spec k (by omega) h30 h50
    obtain ⟨r52, e52, h52⟩ := times_spec h34 h51
    have hst : E4 r49 r52 r46 r48 (sw s (lad x4 x (n + 1))) := by
      have : sw s (lad x4 x (n + 1)) = stp x (sw s (lad x4 x n)) := by
        rw [lad, show 254 - n = d by omega, ← es, sw_sw]
      rw [this]
      exact ⟨h49, h52, h46, h48⟩
    obtain ⟨t', m1, m2, m3, m4, em, ht', hm⟩ := ih k (n + 1) s r49 r52 r46 r48 (by omega) (by omega) hs hst
    refine ⟨t', m1, m2, m3, m4, ?_, ht', hm⟩
    rw [xdh_Mul.p1, show ((d + 1 : Nat) : Int) - 1 = (d : Int) by omega, decide_eq_true (show (d : Int) ≥ 0 by omega)]
    show chk _ _ = _
    rw [show Int.tdiv (d : Int) 8 = ((d / 8 : Nat) : Int) from rfl, show Int.tmod (d : Int) 8 = ((d % 8 : Nat) : Int) from rfl]
    rw [wrap_i64_of (x := ((d / 8 : Nat) : Int)) (by omega) (by omega), wrap_u64_of (x := ((d % 8 : Nat) : Int)) (by omega) (by omega)]
    rw [chk_pos ⟨by omega, by omega⟩, chk_pos (by omega)]
    rw [show (((d / 8 : Nat) : Int)).toNat = d / 8 by omega, show (((d % 8 : Nat) : Int)).toNat = d % 8 by omega, show min (d % 8) IntKind.u8.bits = d % 8 from Nat.min_eq_left (show d % 8 ≤ 8 by omega)]
    refine lt_rw (y := s) (by rw [(byte_bit hx4 d).1, es]) ?_
    rw [xor_01 hs ht]
    exact sbd e24 (sbd e25 (sbd e26 (sbd e27 (sbd e30 (sbd e31 (sbd e34 (sbd e36 (sbd e37 (sbd e38 (sbd e39 (sbd e42 (sbd e43 (sbd e46 (sbd e47 (sbd e48 (sbd e49 (sbd e50 (sbd e51 (sbd e52 (lt_rw (wrap_i64_of (by omega) (by omega)) em))))))))))))))))))))
/-- the secret as it is taken -/
def clamp (a : List Int) : List Int := (a.set 0 (bits .and .u8 (a.getD 0 0) 248)).set 31 (bits .or .u8 (bits .and .u8 ((a.set 0 (bits .and .u8 (a.getD 0 0) 248)).getD 31 0) 127) 64)
def low (a : List Int) : List Int := a.set 31 (bits .and .u8 (a.getD 31 0) 127)
theorem u8_nat {x : Int} (h : 0 ≤ x ∧ x < 256) : ∃ n : Nat, x = (n : Int) ∧ n < 2 ^ 8 := by
  obtain ⟨n, rfl⟩ := Int.eq_ofNat_of_zero_le h.1
  exact ⟨n, rfl, by omega⟩
theorem and_b {x y : Int} (hx : 0 ≤ x ∧ x < 256) (hy : 0 ≤ y ∧ y < 256) : 0 ≤ bits .and .u8 x y ∧ bits .and .u8 x y < 256 := by
  obtain ⟨n, rfl, hn⟩ := u8_nat hx
  obtain ⟨m, rfl, hm⟩ := u8_nat hy
  rw [and_u8 n m hn hm]
  have := Nat.and_lt_two_pow n hm
  omega
theorem or_b {x y : Int} (hx : 0 ≤ x ∧ x < 256) (hy : 0 ≤ y ∧ y < 256) : 0 ≤ bits .or .u8 x y ∧ bits .or .u8 x y < 256 := by
  obtain ⟨n, rfl, hn⟩ := u8_nat hx
  obtain ⟨m, rfl, hm⟩ := u8_nat hy
  rw [or_u8 n m hn hm]
  have := Nat.or_lt_two_pow hn hm
  omega
theorem clamp_by {a : List Int} (h : By a 32) : By (clamp a) 32 := by
  have h1 : By (a.set 0 (bits .and .u8 (a.getD 0 0) 248)) 32 := h.set 0 (and_b (getD_u8 a h.2 0) (by decide))
  exact h1.set 31 (or_b (and_b (getD_u8 _ h1.2 31) (by decide)) (by decide))
theorem low_by {a : List Int} (h : By a 32) : By (low a) 32 := h.set 31 (and_b (getD_u8 a h.2 31) (by decide))
/-- what the product is -/
def res (l : List Int) (x : Int) : Int := (lad l x 255).a * (lad l x 255).b ^ P2
theorem xmul_spec (k : Nat) (hk : 300 ≤ k) {a b : List Int} (ha : By a 32) (hb : By b 32) (x : Int) (hx : x % p = B (low b) % p) : xdh_Mul.f k a b = some (toB 32 (res (clamp a) x % p)) := by
  obtain ⟨r5, e5, h5⟩ := of_spec k (by omega) (low_by hb)
  have h5 := h5.cong hx.symm
  obtain ⟨r6, e6, h6⟩ : ∃ c, xdh_number.f k 121665 = some c ∧ El c 121665 := by
    have hby : By ((((List.replicate 32 (0 : Int)).set 0 65).set 1 219).set 2 1) 32 := (((By.zero 32).set 0 (by decide)).set 1 (by decide)).set 2 (by decide)
    obtain ⟨c, ec, hc⟩ := of_spec k (by omega) hby
    refine ⟨c, ?_, hc.eq (by decide)⟩
    unfold xdh_number.f
    rw [show ((((List.replicate 32 (0 : Int)).set 0 (IntKind.u8.wrap 121665)).set 1 (IntKind.u8.wrap (Int.fdiv 121665 (2 ^ 8)))).set 2 (IntKind.u8.wrap (Int.fdiv 121665 (2 ^ 16)))).set 3 (IntKind.u8.wrap (Int.fdiv 121665 (2 ^ 24))) = (((List.replicate 32 (0 : Int)).set 0 65).set 1 219).set 2 1 by decide]
    exact sbd ec rfl
  have hone : El ((List.replicate 5 (0 : Int)).set 0 1) 1 := ⟨1, 0, 0, 0, 0, 0, rfl, by decide, by decide, by decide, by decide, by decide, by decide⟩
  have hzero : El (List.replicate 5 (0 : Int)) 0 := ⟨0, 0, 0, 0, 0, 0, rfl, by decide, by decide, by decide, by decide, by decide, by decide⟩
  obtain ⟨t, m1, m2, m3, m4, em, ht, hm⟩ := loop_spec h5 h6 (clamp_by ha).2 255 k 0 0 ((List.replicate 5 (0 : Int)).set 0 1) (List.replicate 5 (0 : Int)) r5 ((List.replicate 5 (0 : Int)).set 0 1) rfl (by omega) (.inl rfl) ⟨hone, hzero, h5, hone⟩
  obtain ⟨r60, r61, e60, e61, h1⟩ := swap2_spec k (by omega) hm t ht
  rw [sw_sw] at h1
  obtain ⟨r62, e62, h62⟩ := inverse_spec k (by omega) h1.2.1
  obtain ⟨r63, e63, h63⟩ := times_spec h1.1 h62
  unfold xdh_Mul.f
  refine lt_rwl (y := clamp a) rfl (sbd e5 (sbd e6 (sbd (x := field_One.f) rfl (sbd (x := field_One.f) rfl (sbd em (sbd e60 (sbd e61 (sbd e62 (sbd e63 (sbd (bytes_spec k (by omega) h63) rfl))))))))))
end Go.Proofs.Ytigbkodgnikigaa

namespace Go.Proofs.Ytigbkodgnikigaa.ref
open Go Go.Gx Go.Proofs.Ytigbkodgnikigaa
def R4 (l1 l2 l3 l4 : List Int) (s : S4) : Prop := Rn l1 s.a ∧ Rn l2 s.b ∧ Rn l3 s.c ∧ Rn l4 s.d
theorem small_num (n : Int) (h : 0 ≤ n ∧ n < 18446744073709551616) : Num [n, 0, 0, 0] n := Num.mk' h (by decide) (by decide) (by decide) (by omega)
theorem p3_spec {t : Int} {l1 l2 l3 l4 : List Int} {s : S4} (ht : t = 0 ∨ t = 1) (h : R4 l1 l2 l3 l4 s) : ∃ m1 m2 m3 m4, postilionref03_Mul.p3 t l1 l2 l3 l4 = some (m1, m2, m3, m4) ∧ R4 m1 m2 m3 m4 (sw t s) := by
  rcases ht with rfl | rfl
  · exact ⟨_, _, _, _, rfl, h⟩
  · exact ⟨_, _, _, _, rfl, h.2.2.1, h.2.2.2, h.1, h.2.1⟩
theorem p4_spec {t : Int} {l1 l2 l3 l4 : List Int} {s : S4} (ht : t = 0 ∨ t = 1) (h : R4 l1 l2 l3 l4 s) : ∃ m1 m2 m3 m4, postilionref03_Mul.p4 t l1 l2 l3 l4 = some (m1, m2, m3, m4) ∧ R4 m1 m2 m3 m4 (sw t s) := by
  rcases ht with rfl | rfl
  · exact ⟨_, _, _, _, rfl, h⟩
  · exact ⟨_, _, _, _, rfl, h.2.2.1, h.2.2.2, h.1, h.2.1⟩
theorem step_spec (k : Nat) (hk : 12 ≤ k) {x4 l5 : List Int} {x : Int} (h5 : Rn l5 x) (hx4 : ∀ y ∈ x4, IntKind.u8.has y) (d : Nat) (hd : d < 255) {l1 l2 l3 l4 : List Int} {s : S4} (h : R4 l1 l2 l3 l4 s) :
    ∃ m1 m2 m3 m4, postilionref03_Mul.p2 k (d : Int) x4 l5 l1 l2 l3 l4 = some (m1, m2, m3, m4) ∧ R4 m1 m2 m3 m4 (sw (bitL x4 d) (stp x (sw (bitL x4 d) s))) := by
  obtain ⟨t, et⟩ : ∃ t, t = bitL x4 d := ⟨_, rfl⟩
  have ht := bitL_01 x4 d
  rw [← et] at ht ⊢
  obtain ⟨m23, m24, m25, m26, ep, ha, hb, hc, hdd⟩ := p3_spec ht h
  generalize sw t s = z at *
  obtain ⟨r27, e27, h27⟩ := plus_spec k (by omega) ha hb
  obtain ⟨r28, e28, h28⟩ := minus_spec k (by omega) ha hb
  obtain ⟨r31, e31, h31⟩ := times_spec k hk h27 h27
  obtain ⟨r32, e32, h32⟩ := times_spec k hk h28 h28
  obtain ⟨r35, e35, h35⟩ := minus_spec k (by omega) h31 h32
  obtain ⟨r37, e37, h37⟩ := plus_spec k (by omega) hc hdd
  obtain ⟨r38, e38, h38⟩ := times_spec k hk h28 h37
  obtain ⟨r39, e39, h39⟩ := minus_spec k (by omega) hc hdd
  obtain ⟨r40, e40, h40⟩ := times_spec k hk h27 h39
  obtain ⟨r43, e43, h43⟩ := plus_spec k (by omega) h38 h40
  obtain ⟨r45, e45, h45⟩ := times_spec k hk h43 h43
  obtain ⟨r46, e46, h46⟩ := minus_spec k (by omega) h38 h40
  obtain ⟨r48, e48, h48⟩ := times_spec k hk h46 h46
  obtain ⟨r49, e49, h49⟩ := times_spec k hk h5 h48
  obtain ⟨r50, e50, h50⟩ := times_spec k hk h31 h32
  obtain ⟨r52, e52, h52⟩ := times_spec k hk (small_num 121665 (by decide)).rn h35
  obtain ⟨r53, e53, h53⟩ := plus_spec k (by omega) h31 h52
  obtain ⟨r54, e54, h54⟩ := times_spec k hk h35 h53
  have hst : R4 r50 r54 r45 r49 (stp x z) := by
    refine ⟨h50, h54, h45.eq ?_, h49.eq ?_⟩
    · show _ = ((z.c - z.d) * (z.a + z.b) + (z.c + z.d) * (z.a - z.b)) * ((z.c - z.d) * (z.a + z.b) + (z.c + z.d) * (z.a - z.b))
      rw [Int.add_comm, Int.mul_comm (z.a + z.b), Int.mul_comm (z.a - z.b)]
    · show _ = ((z.c - z.d) * (z.a + z.b) - (z.c + z.d) * (z.a - z.b)) * ((z.c - z.d) * (z.a + z.b) - (z.c + z.d) * (z.a - z.b)) * x
      rw [Int.mul_comm (z.a + z.b), Int.mul_comm (z.a - z.b)]
      generalize (z.c - z.d) * (z.a + z.b) = u
      generalize (z.c + z.d) * (z.a - z.b) = v
      rw [Int.mul_comm x, show v - u = -(u - v) by omega, Int.neg_mul_neg]
  obtain ⟨n1, n2, n3, n4, eq, hn⟩ := p4_spec ht hst
  refine ⟨n1, n2, n3, n4, ?_, hn⟩
  unfold postilionref03_Mul.p2
  rw [show Int.tdiv (d : Int) 8 = ((d / 8 : Nat) : Int) from rfl, show Int.tmod (d : Int) 8 = ((d % 8 : Nat) : Int) from rfl]
  rw [wrap_i64_of (x := ((d / 8 : Nat) : Int)) (by omega) (by omega)]
  rw [chk_pos ⟨by omega, by omega⟩, chk_pos (by omega)]
  rw [show (((d / 8 : Nat) : Int)).toNat = d / 8 by omega, show (((d % 8 : Nat) : Int)).toNat = d % 8 by omega, show min (d % 8) IntKind.u8.bits = d % 8 from Nat.min_eq_left (show d % 8 ≤ 8 by omega)]
  refine lt_rw (y := t) (by rw [(byte_bit hx4 d).2, et]) ?_
  exact sbd ep (sbd e27 (sbd e28 (sbd e31 (sbd e32 (sbd e35 (sbd e37 (sbd e38 (sbd e39 (sbd e40 (sbd e43 (sbd e43 (sbd e45 (sbd e46 (sbd e46 (sbd e48 (sbd e49 (sbd e50 (sbd (x := postilionref04_Small.f 121665) rfl (sbd e52 (sbd e53 (sbd e54 (sbd eq rfl))))))))))))))))))))))
theorem loop_spec {x4 l5 : List Int} {x : Int} (h5 : Rn l5 x) (hx4 : ∀ y ∈ x4, IntKind.u8.has y) : ∀ (d k n : Nat) (l1 l2 l3 l4 : List Int), d + n = 255 → d + 13 ≤ k → R4 l1 l2 l3 l4 (lad x4 x n) →
    ∃ m1 m2 m3 m4, postilionref03_Mul.p1 k x4 l5 l1 l2 l3 l4 ((d : Int) - 1) = some (m1, m2, m3, m4) ∧ R4 m1 m2 m3 m4 (lad x4 x 255) := by
  intro d
  induction d with
  | zero =>
    intro k n l1 l2 l3 l4 hdn hk h
    obtain ⟨k, rfl⟩ := Nat.exists_eq_add_of_le' (show 1 ≤ k by omega)
    have : n = 255 := by omega
    subst this
    exact ⟨l1, l2, l3, l4, rfl, h⟩
  | succ d ih =>
    intro k n l1 l2 l3 l4 hdn hk h
    obtain ⟨k, rfl⟩ := Nat.exists_eq_add_of_le' (show 1 ≤ k by omega)
    obtain ⟨m1, m2, m3, m4, em, hm⟩ := step_spec k (by omega) h5 hx4 d (by omega) h
    have : sw (bitL x4 d) (stp x (sw (bitL x4 d) (lad x4 x n))) = lad x4 x (n + 1) := by rw [lad, show 254 - n = d by omega]
    rw [this] at hm
    obtain ⟨n1, n2, n3, n4, en, hn⟩ := ih k (n + 1) m1 m2 m3 m4 (by omega) (by omega) hm
    refine ⟨n1, n2, n3, n4, ?_, hn⟩
    rw [postilionref03_Mul.p1, show ((d + 1 : Nat) : Int) - 1 = (d : Int) by omega, decide_eq_true (show (d : Int) ≥ 0 by omega)]
    exact sbd em (lt_rw (wrap_i64_of (by omega) (by omega)) en)
theorem xmul_spec (k : Nat) (hk : 300 ≤ k) {a b : List Int} (ha : By a 32) (hb : By b 32) (x : Int) (hx : x % p = B (low b) % p) : postilionref03_Mul.f k a b = some (toB 32 (res (clamp a) x % p)) := by
  obtain ⟨r5, e5, h5⟩ := from_spec k (by omega) (low_by hb)
  have h5 := h5.rn.cong hx.symm
  obtain ⟨m1, m2, m3, m4, em, hm⟩ := loop_spec h5 (clamp_by ha).2 255 k 0 [1, 0, 0, 0] [0, 0, 0, 0] r5 [1, 0, 0, 0] rfl (by omega) ⟨(small_num 1 (by decide)).rn, (small_num 0 (by decide)).rn, h5, (small_num 1 (by decide)).rn⟩
  obtain ⟨r71, e71, h71⟩ := inverse_spec k (by omega) hm.2.1
  obtain ⟨r72, e72, h72⟩ := times_spec k (by omega) hm.1 h71
  unfold postilionref03_Mul.f
  exact lt_rwl (y := clamp a) rfl (sbd e5 (sbd (x := postilionref04_Small.f 1) rfl (sbd (x := postilionref04_Small.f 0) rfl (sbd (x := postilionref04_Small.f 1) rfl (sbd em (sbd e71 (sbd e72 (sbd (bytes_rn k (by omega) h72) rfl))))))))
end Go.Proofs.Ytigbkodgnikigaa.ref
namespace Go.Proofs.Ytigbkodgnikigaa
open Go Go.Gx
/-! ### The ladder reckoned -/
def frc {α : Type} (x : Nat) (f : Nat → α) : α := match x with | 0 => f 0 | n + 1 => f (n + 1)
theorem frc_eq {α : Type} (x : Nat) (f : Nat → α) : frc x f = f x := by cases x <;> rfl
def PN : Nat := 57896044618658097711785492504343953926634992332820282019728792003956564819949
def goN (x : Nat) (bs : Nat → Bool) : Nat → Nat → Nat → Nat → Nat → Nat × Nat
  | 0, a, b, _, _ => (a, b)
  | i + 1, a, b, c, d =>
    frc (bif bs i then c else a) fun a0 => frc (bif bs i then d else b) fun b0 => frc (bif bs i then a else c) fun c0 => frc (bif bs i then b else d) fun d0 =>
    frc ((a0 + b0) % PN) fun s => frc ((a0 + (PN - b0)) % PN) fun t => frc (s * s % PN) fun ss => frc (t * t % PN) fun tt => frc ((ss + (PN - tt)) % PN) fun e =>
    frc ((c0 + (PN - d0)) % PN * s % PN) fun da => frc ((c0 + d0) % PN * t % PN) fun cb => frc ((da + cb) % PN) fun v => frc ((da + (PN - cb)) % PN) fun u =>
    frc (ss * tt % PN) fun a1 => frc (e * (ss + 121665 * e) % PN) fun b1 => frc (v * v % PN) fun c1 => frc (u * u % PN * x % PN) fun d1 =>
    bif bs i then goN x bs i c1 d1 a1 b1 else goN x bs i a1 b1 c1 d1
def C4 (a b c d : Nat) (s : S4) : Prop := ((a : Int) % p = s.a % p ∧ a < PN) ∧ ((b : Int) % p = s.b % p ∧ b < PN) ∧ ((c : Int) % p = s.c % p ∧ c < PN) ∧ ((d : Int) % p = s.d % p ∧ d < PN)
theorem PN_p : (PN : Int) = p := rfl
theorem PN_pos : 0 < PN := by decide
theorem nm (m : Nat) : ((m % PN : Nat) : Int) % p = (m : Int) % p := by rw [Int.natCast_emod, PN_p, Int.emod_emod]
theorem nadd {a b : Nat} {m n : Int} (ha : (a : Int) % p = m % p) (hb : (b : Int) % p = n % p) : (((a + b) % PN : Nat) : Int) % p = (m + n) % p := by rw [nm, Int.natCast_add]; exact cg_add ha hb
theorem nmul {a b : Nat} {m n : Int} (ha : (a : Int) % p = m % p) (hb : (b : Int) % p = n % p) : (((a * b) % PN : Nat) : Int) % p = (m * n) % p := by rw [nm, Int.natCast_mul]; exact cg_mul ha hb
theorem nsub {a b : Nat} {m n : Int} (ha : (a : Int) % p = m % p) (hb : (b : Int) % p = n % p) (h : b < PN) : (((a + (PN - b)) % PN : Nat) : Int) % p = (m - n) % p := by
  rw [nm, Int.natCast_add, Int.natCast_sub (Nat.le_of_lt h), PN_p, show (a : Int) + (p - b) = a - b + p by omega, Int.add_emod_right]
  exact cg_sub ha hb
theorem naff {a b : Nat} {m n : Int} (ha : (a : Int) % p = m % p) (hb : (b : Int) % p = n % p) : ((a + 121665 * b : Nat) : Int) % p = (m + 121665 * n) % p := by
  rw [Int.natCast_add, Int.natCast_mul]; exact cg_add ha (cg_mul rfl hb)
theorem nlt (m : Nat) : m % PN < PN := Nat.mod_lt _ PN_pos
theorem goN_spec {x4 : List Int} {x : Int} {xN : Nat} (hx : (xN : Int) % p = x % p) (bs : Nat → Bool) (hbs : ∀ i, i < 255 → bitL x4 i = if bs i then 1 else 0) : ∀ (i n a b c d : Nat), i + n = 255 → C4 a b c d (lad x4 x n) →
    ∃ A B, goN xN bs i a b c d = (A, B) ∧ (A : Int) % p = (lad x4 x 255).a % p ∧ (B : Int) % p = (lad x4 x 255).b % p := by
  intro i
  induction i with
  | zero =>
    intro n a b c d hn h
    have : n = 255 := by omega
    subst this
    exact ⟨a, b, rfl, h.1.1, h.2.1.1⟩
  | succ i ih =>
    intro n a b c d hn h
    obtain ⟨a0, b0, c0, d0, ea, eb, ec, ed, h0⟩ : ∃ a0 b0 c0 d0, (bif bs i then c else a) = a0 ∧ (bif bs i then d else b) = b0 ∧ (bif bs i then a else c) = c0 ∧ (bif bs i then b else d) = d0 ∧ C4 a0 b0 c0 d0 (sw (bitL x4 i) (lad x4 x n)) := by
      refine ⟨_, _, _, _, rfl, rfl, rfl, rfl, ?_⟩
      rw [hbs i (by omega)]
      cases bs i
      · exact h
      · exact ⟨h.2.2.1, h.2.2.2, h.1, h.2.1⟩
    obtain ⟨⟨ha, la⟩, ⟨hb, lb⟩, ⟨hc, lc⟩, ⟨hd, ld⟩⟩ := h0
    rw [goN]
    simp only [frc_eq, ea, eb, ec, ed]
    have hs := nadd ha hb
    have ht := nsub ha hb lb
    have hss := nmul hs hs
    have htt := nmul ht ht
    have he := nsub hss htt (nlt _)
    have hda := nmul (nsub hc hd ld) hs
    have hcb := nmul (nadd hc hd) ht
    have hv := nadd hda hcb
    have hu := nsub hda hcb (nlt _)
    have h1 := nmul hss htt
    have h2' := naff hss he
    have h2 := nmul he h2'
    have h3 := nmul hv hv
    have h4 := nmul (nmul hu hu) hx
    have key := fun (q1 q2 q3 q4 : Nat) (hq : C4 q1 q2 q3 q4 (lad x4 x (n + 1))) => ih (n + 1) q1 q2 q3 q4 (by omega) hq
    have el : lad x4 x (n + 1) = sw (bitL x4 i) (stp x (sw (bitL x4 i) (lad x4 x n))) := by rw [lad, show 254 - n = i by omega]
    have hC : C4 _ _ _ _ (stp x (sw (bitL x4 i) (lad x4 x n))) := ⟨⟨h1, nlt _⟩, ⟨h2, nlt _⟩, ⟨h3, nlt _⟩, ⟨h4, nlt _⟩⟩
    rw [hbs i (by omega)] at hC el
    cases hbi : bs i
    · rw [hbi] at hC el
      exact key _ _ _ _ (by rw [el]; exact hC)
    · rw [hbi] at hC el
      exact key _ _ _ _ (by rw [el]; exact ⟨hC.2.2.1, hC.2.2.2, hC.1, hC.2.1⟩)
theorem res_nz {l : List Int} {x : Int} (ha : (lad l x 255).a % p ≠ 0) (hb : (lad l x 255).b % p ≠ 0) : res l x % p ≠ 0 := fun h => by
  unfold res at h
  rcases mod_mul_zero h with h | h
  · exact ha h
  · exact inv_nz hb h
def oneL : List Int := (List.replicate 32 (0 : Int)).set 0 1
theorem awake_res : res (clamp oneL) 9 % p ≠ 0 := by
  have hb : ∀ i, i < 255 → bitL (clamp oneL) i = if Nat.beq i 254 then 1 else 0 := by
    have : (List.range 255).all (fun i => decide (bitL (clamp oneL) i = if Nat.beq i 254 then 1 else 0)) = true := by decide +kernel
    intro i hi
    exact of_decide_eq_true (List.all_eq_true.1 this i (List.mem_range.2 hi))
  obtain ⟨A, B, e, hA, hB⟩ := goN_spec (x4 := clamp oneL) (x := 9) (xN := 9) rfl (fun i => Nat.beq i 254) hb 255 0 1 0 9 1 rfl ⟨⟨rfl, by decide⟩, ⟨rfl, by decide⟩, ⟨rfl, by decide⟩, ⟨rfl, by decide⟩⟩
  have hz : Nat.beq ((goN 9 (fun i => Nat.beq i 254) 255 1 0 9 1).1 % PN) 0 = false ∧ Nat.beq ((goN 9 (fun i => Nat.beq i 254) 255 1 0 9 1).2 % PN) 0 = false := by decide +kernel
  rw [e] at hz
  have nz : ∀ m : Nat, Nat.beq (m % PN) 0 = false → (m : Int) % p ≠ 0 := fun m h h0 => by
    rw [← PN_p, ← Int.natCast_emod] at h0
    have : m % PN = 0 := by omega
    rw [this] at h; cases h
  exact res_nz (by rw [← hA]; exact nz A hz.1) (by rw [← hB]; exact nz B hz.2)
theorem B_nine : B ((List.replicate 32 (0 : Int)).set 0 9) = 9 := by decide
theorem nine_by : By ((List.replicate 32 (0 : Int)).set 0 9) 32 := (By.zero 32).set 0 (by decide)
theorem low_nine : low ((List.replicate 32 (0 : Int)).set 0 9) = (List.replicate 32 (0 : Int)).set 0 9 := by decide
theorem public_spec (k : Nat) (hk : 300 ≤ k) {a : List Int} (ha : By a 32) : xdh_Public.f k a = some (toB 32 (res (clamp a) 9 % p)) := by
  unfold xdh_Public.f
  exact sbd (xmul_spec k hk ha nine_by 9 (by rw [low_nine, B_nine])) rfl
theorem awake_law (k : Nat) (hk : 300 ≤ k) : postilionlaw08_awake.f k = some true := by
  unfold postilionlaw08_awake.f
  refine sbd (public_spec k hk (a := oneL) ((By.zero 32).set 0 (by decide))) (som ?_)
  rw [z_toB, toB_eq, Int.zero_emod, decide_eq_false awake_res]; rfl
end Go.Proofs.Ytigbkodgnikigaa
namespace Go.Proofs.Ytigbkodgnikigaa.xdhMuls
open Go Go.Gx
theorem pure_law (a0 : List Int) (la0 : a0.length = 32) (w0 : ∀ x ∈ a0, IntKind.u8.has x) (a1 : List Int) (la1 : a1.length = 32) (w1 : ∀ x ∈ a1, IntKind.u8.has x) : ∃ k, postilionlaw08_XdhMuls.f k a0 a1 = some true := by
  refine ⟨1000, ?_⟩
  generalize hk' : 1000 = k
  have hk : 300 ≤ k := by omega
  have ha : By a0 32 := ⟨la0, w0⟩
  have hb : By a1 32 := ⟨la1, w1⟩
  have e1 := xmul_spec k hk ha hb (B (low a1)) rfl
  have e2 := ref.xmul_spec k hk ha hb (B (low a1)) rfl
  have e3 := public_spec k hk ha
  have e4 : postilionref03_Public.f k a0 = some (toB 32 (res (clamp a0) 9 % p)) := by
    unfold postilionref03_Public.f
    exact sbd (ref.xmul_spec k hk ha nine_by 9 (by rw [low_nine, B_nine])) rfl
  have e5 : ∃ r, xdh_Shared.f k a0 a1 = some r ∧ postilionref03_Shared.f k a0 a1 = some r := by
    unfold xdh_Shared.f postilionref03_Shared.f
    generalize toB 32 (res (clamp a0) (B (low a1)) % p) = z at *
    cases hc : (z == List.replicate 32 (0 : Int))
    · exact ⟨(z, 0), sbd e1 (sbf hc rfl), sbd e2 (sbf hc rfl)⟩
    · exact ⟨(z, 2), sbd e1 (sbt hc rfl), sbd e2 (sbt hc rfl)⟩
  obtain ⟨r, e5, e6⟩ := e5
  unfold postilionlaw08_XdhMuls.f
  refine sbd (awake_law k hk) (sbf rfl (sbd e5 (lt_rw rfl (sbd e6 (lt_rw rfl (sbd (a := true) ?_ rfl))))))
  unfold postilionlaw08_XdhMuls.p1
  exact sbd e1 (sbd e2 (sbt (beq_self_eq_true _) (sbd e3 (sbd e4 (sbt (beq_self_eq_true _) (sbt (beq_self_eq_true _) (som (beq_self_eq_true _))))))))
end Go.Proofs.Ytigbkodgnikigaa.xdhMuls

