/-
  Plain laws of the field: powers, Fermat, roots.
  Conditions: none.
-/
import Derived.Test.YtalnjdcidmkajaaPa
set_option linter.unusedVariables false

namespace Go.Proofs.Ytalnjdcidmkajaa
open Go Go.Gx
theorem p_pos : 0 < p := by decide
theorem mp (n : Int) : 0 ≤ n % p ∧ n % p < p := ⟨Int.emod_nonneg _ (by decide), Int.emod_lt_of_pos _ p_pos⟩
theorem B_small (n : Int) : B (toB 32 (n % p)) = n % p := by
  have := mp n
  rw [B_toB, Int.emod_eq_of_lt this.1 (Int.lt_trans this.2 (by decide))]
theorem ne_of_mod {a : List Int} (ha : By a 32) : (toB 32 (B a % p) == a) = decide (B a < p) := by
  by_cases hl : B a < p
  · rw [Int.emod_eq_of_lt (B_nonneg ha) hl, ← ha.1, toB_B a ha.2, decide_eq_true hl]; exact beq_self_eq_true _
  · rw [decide_eq_false hl, beq_eq_false_iff_ne]
    intro e
    have := congrArg B e
    rw [B_small] at this
    have h1 := mp (B a)
    rw [this] at h1
    exact hl h1.2
theorem canonical_law (k : Nat) (hk : 50 ≤ k) {a : List Int} (ha : By a 32) : field_Canonical.f k a = some (decide (B a < p)) := by
  obtain ⟨x, ex, nx⟩ := of_spec k (by omega) ha
  refine sbd ex (sbd (bytes_spec k hk nx) (som ?_))
  exact ne_of_mod ha
theorem B_zero : B (List.replicate 32 (0 : Int)) = 0 := by decide
theorem B_one : B ((List.replicate 32 (0 : Int)).set 0 1) = 1 := by decide
theorem ap (N x y : Int) : (x % N + y % N) % N = (x + y) % N := (Int.add_emod x y N).symm
theorem mp1 (N x y : Int) : (x % N * y) % N = (x * y) % N := by rw [Int.mul_emod, Int.emod_emod, ← Int.mul_emod]
theorem mp2 (N x y : Int) : (x * (y % N)) % N = (x * y) % N := by rw [Int.mul_emod, Int.emod_emod, ← Int.mul_emod]
end Go.Proofs.Ytalnjdcidmkajaa


namespace Go.Proofs.Ytalnjdcidmkajaa
open Go Go.Gx
theorem El.eq {l : List Int} {m n : Int} (h : El l m) (e : m = n) : El l n := e ▸ h
theorem El.cong {l : List Int} {m n : Int} (h : El l m) (e : m % p = n % p) : El l n := by
  obtain ⟨x0, x1, x2, x3, x4, q, hl, h0, h1, h2, h3, h4, hF⟩ := h
  refine ⟨x0, x1, x2, x3, x4, q + (m / p - n / p), hl, h0, h1, h2, h3, h4, ?_⟩
  have e1 := Int.mul_ediv_add_emod m p
  have e2 := Int.mul_ediv_add_emod n p
  rw [hF, Int.mul_add, Int.mul_sub]
  omega
theorem sq_loop (a : Int) (N : Nat) (hN : a = (N : Int)) (hb : N < 1000) : ∀ (d k i : Nat) (l : List Int) (m : Int), i + d = N → d < k → El l m →
    ∃ c, field_Element_squared.p1 k a l (i : Int) = some c ∧ El c (m ^ (2 ^ d)) := by
  intro d
  induction d with
  | zero =>
    intro k i l m hi hk h
    obtain ⟨k, rfl⟩ : ∃ j, k = j + 1 := ⟨k - 1, by omega⟩
    refine ⟨l, ?_, h.eq (by rw [Nat.pow_zero, Int.pow_succ, Int.pow_zero, Int.one_mul])⟩
    unfold field_Element_squared.p1
    exact sbf (by rw [decide_eq_false_iff_not]; omega) rfl
  | succ d ih =>
    intro k i l m hi hk h
    obtain ⟨k, rfl⟩ : ∃ j, k = j + 1 := ⟨k - 1, by omega⟩
    obtain ⟨c, hc, hE⟩ := times_spec h h
    obtain ⟨r, hr, hE2⟩ := ih k (i + 1) c (m * m) (by omega) (by omega) hE
    refine ⟨r, ?_, hE2.eq ?_⟩
    · unfold field_Element_squared.p1
      refine sbt (by rw [decide_eq_true_eq]; omega) (sbd hc (lt_rw (y := ((i + 1 : Nat) : Int)) ?_ hr))
      rw [wrap_i64_of (by omega) (by omega)]; omega
    · rw [show m * m = m ^ 2 by rw [Int.pow_succ, Int.pow_succ, Int.pow_zero, Int.one_mul], ← Int.pow_mul, Nat.pow_succ, Nat.mul_comm]
theorem sq_spec (k : Nat) (hk : 101 ≤ k) {l : List Int} {m : Int} (N : Nat) (hN : N ≤ 100) (a : Int) (ha : a = (N : Int)) (h : El l m) : ∃ c, field_Element_squared.f k l a = some c ∧ El c (m ^ (2 ^ N)) := by
  obtain ⟨c, hc, hE⟩ := sq_loop a N ha (by omega) N k 0 l m (by omega) (by omega) h
  exact ⟨c, by unfold field_Element_squared.f; exact sbd hc rfl, hE⟩
/-- A power of a number. -/
def Ep (l : List Int) (m : Int) (n : Nat) : Prop := El l (m ^ n)
theorem Ep.times {a b : List Int} {m : Int} {x y : Nat} (ha : Ep a m x) (hb : Ep b m y) : ∃ c, field_Element_Times.f a b = some c ∧ Ep c m (x + y) := by
  obtain ⟨c, hc, hE⟩ := times_spec ha hb
  exact ⟨c, hc, hE.eq (Int.pow_add m x y).symm⟩
theorem Ep.sq (k : Nat) (hk : 101 ≤ k) (N : Nat) (hN : N ≤ 100) (z : Int) (hz : z = (N : Int)) {a : List Int} {m : Int} {x : Nat} (ha : Ep a m x) : ∃ c, field_Element_squared.f k a z = some c ∧ Ep c m (x * 2 ^ N) := by
  obtain ⟨c, hc, hE⟩ := sq_spec k hk N hN z hz ha
  exact ⟨c, hc, hE.eq Int.pow_mul.symm⟩
theorem Ep.one {a : List Int} {m : Int} (h : El a m) : Ep a m 1 := h.eq (by rw [Int.pow_succ, Int.pow_zero, Int.one_mul])
theorem Ep.to {a : List Int} {m : Int} {x y : Nat} (h : Ep a m x) (e : x = y) : Ep a m y := e ▸ h
def P250 : Nat := 1809251394333065553493296640760748560207343510400633813116524750123642650623
theorem chain_spec (k : Nat) (hk : 101 ≤ k) {a : List Int} {m : Int} (h : El a m) : ∃ c d, field_Element_chain.f k a = some (c, d) ∧ Ep c m P250 ∧ Ep d m 11 := by
  have h1 := Ep.one h
  obtain ⟨r4, e4, h4⟩ := h1.sq k hk 1 (by decide) 1 rfl
  obtain ⟨r6, e6, h6⟩ := h4.sq k hk 2 (by decide) 2 rfl
  obtain ⟨r7, e7, h7⟩ := h6.times h1
  obtain ⟨r9, e9, h9⟩ := h7.times h4
  obtain ⟨r11, e11, h11⟩ := h9.sq k hk 1 (by decide) 1 rfl
  obtain ⟨r12, e12, h12⟩ := h11.times h7
  obtain ⟨r14, e14, h14⟩ := h12.sq k hk 5 (by decide) 5 rfl
  obtain ⟨r15, e15, h15⟩ := h14.times h12
  obtain ⟨r17, e17, h17⟩ := h15.sq k hk 10 (by decide) 10 rfl
  obtain ⟨r18, e18, h18⟩ := h17.times h15
  obtain ⟨r20, e20, h20⟩ := h18.sq k hk 20 (by decide) 20 rfl
  obtain ⟨r21, e21, h21⟩ := h20.times h18
  obtain ⟨r23, e23, h23⟩ := h21.sq k hk 10 (by decide) 10 rfl
  obtain ⟨r24, e24, h24⟩ := h23.times h15
  obtain ⟨r26, e26, h26⟩ := h24.sq k hk 50 (by decide) 50 rfl
  obtain ⟨r27, e27, h27⟩ := h26.times h24
  obtain ⟨r29, e29, h29⟩ := h27.sq k hk 100 (by decide) 100 rfl
  obtain ⟨r30, e30, h30⟩ := h29.times h27
  obtain ⟨r32, e32, h32⟩ := h30.sq k hk 50 (by decide) 50 rfl
  obtain ⟨r33, e33, h33⟩ := h32.times h24
  refine ⟨r33, r9, ?_, h33.to (by decide), h9.to (by decide)⟩
  unfold field_Element_chain.f
  exact sbd e4 (sbd e6 (sbd e7 (sbd e9 (sbd e11 (sbd e12 (sbd e14 (sbd e15 (sbd e17 (sbd e18 (sbd e20 (sbd e21 (sbd e23 (sbd e24 (sbd e26 (sbd e27 (sbd e29 (sbd e30 (sbd e32 (sbd e33 rfl)))))))))))))))))))
/-- p less 2. -/
def P2 : Nat := 57896044618658097711785492504343953926634992332820282019728792003956564819947
/-- (p less 5) / 8. -/
def P58 : Nat := 7237005577332262213973186563042994240829374041602535252466099000494570602493
theorem inverse_spec (k : Nat) (hk : 101 ≤ k) {a : List Int} {m : Int} (h : El a m) : ∃ c, field_Element_Inverse.f k a = some c ∧ Ep c m P2 := by
  obtain ⟨c, d, hc, h1, h2⟩ := chain_spec k hk h
  obtain ⟨r6, e6, h6⟩ := h1.sq k hk 5 (by decide) 5 rfl
  obtain ⟨r7, e7, h7⟩ := h6.times h2
  refine ⟨r7, ?_, h7.to (by decide)⟩
  unfold field_Element_Inverse.f
  exact sbd hc (sbd e6 (sbd e7 rfl))
theorem power58_spec (k : Nat) (hk : 101 ≤ k) {a : List Int} {m : Int} (h : El a m) : ∃ c, field_Element_Power58.f k a = some c ∧ Ep c m P58 := by
  obtain ⟨c, d, hc, h1, h2⟩ := chain_spec k hk h
  obtain ⟨r6, e6, h6⟩ := h1.sq k hk 2 (by decide) 2 rfl
  obtain ⟨r7, e7, h7⟩ := h6.times (Ep.one h)
  refine ⟨r7, ?_, h7.to (by decide)⟩
  unfold field_Element_Power58.f
  exact sbd hc (sbd e6 (sbd e7 rfl))
end Go.Proofs.Ytalnjdcidmkajaa

/-
  Primes by Pratt's certificates, and Fermat's law. My own text, plain Lean.
-/
namespace Go.Gx
/-- a power modulo N, by halves -/
def pm (N : Nat) : Nat → Nat → Nat → Nat
  | 0, _, _ => 1 % N
  | f + 1, b, e => bif Nat.beq e 0 then 1 % N else bif Nat.beq (e % 2) 0 then pm N f (b * b % N) (e / 2) else b * pm N f (b * b % N) (e / 2) % N
theorem pm_eq (N : Nat) : ∀ (f b e : Nat), e < 2 ^ f → pm N f b e = b ^ e % N
  | 0, b, e, h => by
    have : e = 0 := by simpa using h
    subst this; rfl
  | f + 1, b, e, h => by
    unfold pm
    have hp : ∀ n, (b * b % N) ^ n % N = b ^ (2 * n) % N := fun n => by
      rw [← Nat.pow_mod, Nat.pow_mul, Nat.pow_two]
    have h2 : e / 2 < 2 ^ f := by rw [Nat.pow_succ] at h; omega
    rw [pm_eq N f _ _ h2, hp]
    cases h0 : Nat.beq e 0 with
    | true => have := Nat.eq_of_beq_eq_true h0; subst this; rfl
    | false =>
      cases h1 : Nat.beq (e % 2) 0 with
      | true =>
        have := Nat.eq_of_beq_eq_true h1
        show b ^ (2 * (e / 2)) % N = _
        rw [show 2 * (e / 2) = e by omega]
      | false =>
        have : e % 2 ≠ 0 := fun hh => by rw [hh] at h1; cases h1
        show b * (b ^ (2 * (e / 2)) % N) % N = _
        rw [Nat.mul_mod, Nat.mod_mod, ← Nat.mul_mod, Nat.mul_comm, ← Nat.pow_succ, show (2 * (e / 2)).succ = e by omega]
/-- a prime number -/
def Pr (n : Nat) : Prop := 1 < n ∧ ∀ d, d ∣ n → d = 1 ∨ d = n
theorem Pr.pos {n : Nat} (h : Pr n) : 0 < n := Nat.lt_trans Nat.zero_lt_one h.1
theorem Pr.coprime {q f : Nat} (h : Pr q) (hn : ¬ q ∣ f) : Nat.Coprime f q := by
  rcases h.2 (Nat.gcd f q) (Nat.gcd_dvd_right f q) with h1 | h1
  · exact h1
  · exact absurd (h1 ▸ Nat.gcd_dvd_left f q) hn
theorem Pr.euclid {q a b : Nat} (h : Pr q) (hd : q ∣ a * b) : q ∣ a ∨ q ∣ b := by
  by_cases ha : q ∣ a
  · exact .inl ha
  · exact .inr ((Nat.Coprime.symm (h.coprime ha)).dvd_of_dvd_mul_left hd)
def prod : List Nat → Nat
  | [] => 1
  | q :: l => q * prod l
theorem some_prime : ∀ (qs : List Nat) (f : Nat), (∀ q ∈ qs, Pr q) → 1 < f → f ∣ prod qs → ∃ q ∈ qs, q ∣ f
  | [], f, _, h1, hd => by
    have : f = 1 := Nat.dvd_one.1 hd
    omega
  | q :: l, f, hq, h1, hd => by
    by_cases h : q ∣ f
    · exact ⟨q, List.mem_cons_self .., h⟩
    · obtain ⟨r, hr, hrf⟩ := some_prime l f (fun x hx => hq x (List.mem_cons_of_mem _ hx)) h1 (((hq q (List.mem_cons_self ..)).coprime h).dvd_of_dvd_mul_left hd)
      exact ⟨r, List.mem_cons_of_mem _ hr, hrf⟩
section
variable {N g : Nat}
theorem one_mod (hN : 1 < N) : 1 % N = 1 := Nat.mod_eq_of_lt hN
theorem pow_one_mod (hN : 1 < N) {a : Nat} (h : a % N = 1) (n : Nat) : a ^ n % N = 1 := by rw [Nat.pow_mod, h, Nat.one_pow, one_mod hN]
theorem mul_one_mod {a b : Nat} (h : b % N = 1) : a * b % N = a % N := by rw [Nat.mul_mod, h, Nat.mul_one, Nat.mod_mod]
theorem pow_gcd (hN : 1 < N) (a b : Nat) : g ^ a % N = 1 → g ^ b % N = 1 → g ^ (Nat.gcd a b) % N = 1 := by
  induction a, b using Nat.gcd.induction with
  | H0 b => intro _ h; rwa [Nat.gcd_zero_left]
  | H1 a b ha ih =>
    intro h1 h2
    rw [Nat.gcd_rec]
    refine ih ?_ h1
    have e : b = b % a + a * (b / a) := (Nat.mod_add_div b a).symm
    rw [e, Nat.pow_add, Nat.pow_mul, mul_one_mod (pow_one_mod hN h1 _)] at h2
    exact h2
theorem order (hN : 1 < N) {qs : List Nat} (hq : ∀ q ∈ qs, Pr q) (hp : prod qs = N - 1) (h1 : g ^ (N - 1) % N = 1) (h2 : ∀ q ∈ qs, g ^ ((N - 1) / q) % N ≠ 1) (d : Nat) (hd : 0 < d) (hd' : d < N - 1) : g ^ d % N ≠ 1 := by
  intro h
  have he := pow_gcd hN d (N - 1) h h1
  obtain ⟨f, hf⟩ := Nat.gcd_dvd_right d (N - 1)
  have hle : Nat.gcd d (N - 1) ≤ d := Nat.gcd_le_left _ hd
  generalize Nat.gcd d (N - 1) = e at *
  have hf1 : 1 < f := by
    rcases Nat.lt_or_ge 1 f with h | h
    · exact h
    · have : e * f ≤ e * 1 := Nat.mul_le_mul_left e h
      omega
  obtain ⟨q, hqs, c, hc⟩ := some_prime qs f hq hf1 (by rw [hp, hf]; exact Nat.dvd_mul_left f e)
  refine h2 q hqs ?_
  have : (N - 1) / q = e * c := by
    rw [hf, hc, show e * (q * c) = q * (e * c) by rw [Nat.mul_left_comm]]
    exact Nat.mul_div_cancel_left _ (hq q hqs).pos
  rw [this, Nat.pow_mul]
  exact pow_one_mod hN he c
theorem inv_pow (h1 : g ^ (N - 1) % N = 1) (hN : 1 < N) (i : Nat) : g ^ i * g ^ (i * (N - 2)) % N = 1 := by
  rw [← Nat.pow_add, show i + i * (N - 2) = (N - 1) * i by
    rw [Nat.mul_comm (N - 1), show N - 1 = (N - 2) + 1 by omega, Nat.mul_succ, Nat.add_comm], Nat.pow_mul]
  exact pow_one_mod hN h1 i
theorem cover : ∀ (l m : List Nat), l.Nodup → (∀ x ∈ l, x ∈ m) → m.length ≤ l.length → ∀ x ∈ m, x ∈ l
  | [], m, _, _, hl, x, hx => by
    have : m = [] := List.length_eq_zero_iff.1 (Nat.le_zero.1 hl)
    rw [this] at hx; cases hx
  | a :: t, m, hn, hs, hl, x, hx => by
    rw [List.nodup_cons] at hn
    have ha := hs a (List.mem_cons_self ..)
    by_cases h : x = a
    · rw [h]; exact List.mem_cons_self ..
    · refine List.mem_cons_of_mem _ (cover t (m.erase a) hn.2 (fun y hy => ?_) ?_ x ((List.mem_erase_of_ne h).2 hx))
      · refine (List.mem_erase_of_ne fun e => ?_).2 (hs y (List.mem_cons_of_mem _ hy))
        subst e; exact hn.1 hy
      · rw [List.length_erase_of_mem ha]; simp at hl; omega
/-- Of a number of full order, each that is not nought is a power. -/
theorem powers (hN : 1 < N) (h1 : g ^ (N - 1) % N = 1) (ho : ∀ d, 0 < d → d < N - 1 → g ^ d % N ≠ 1) (x : Nat) (hx : 0 < x) (hx' : x < N) : ∃ k, x = g ^ k % N := by
  have inj : ∀ i j, i < j → j < N - 1 → g ^ i % N ≠ g ^ j % N := fun i j hij hj h => by
    refine ho (j - i) (by omega) (by omega) ?_
    have e : g ^ j = g ^ i * g ^ (j - i) := by rw [← Nat.pow_add]; congr 1; omega
    have hu := inv_pow h1 hN i
    have : g ^ (j - i) * (g ^ i * g ^ (i * (N - 2))) % N = 1 := by
      rw [← Nat.mul_assoc, Nat.mul_comm (g ^ (j - i)), ← e, Nat.mul_mod, ← h, ← Nat.mul_mod]; exact hu
    rwa [mul_one_mod hu] at this
  have nz : ∀ i, 0 < g ^ i % N := fun i => by
    rcases Nat.eq_zero_or_pos (g ^ i % N) with h | h
    · have hu := inv_pow h1 hN i
      rw [Nat.mul_mod, h, Nat.zero_mul, Nat.zero_mod] at hu
      cases hu
    · exact h
  have hnd : ((List.range (N - 1)).map fun k => g ^ k % N).Nodup := by
    rw [List.Nodup, List.pairwise_map]
    refine List.Pairwise.imp_of_mem (R := fun a b => a < b) (fun {a b} _ hb hab => inj a b hab (List.mem_range.1 hb)) List.pairwise_lt_range
  have := cover ((List.range (N - 1)).map fun k => g ^ k % N) (List.range' 1 (N - 1)) hnd (fun y hy => by
    obtain ⟨k, _, rfl⟩ := List.mem_map.1 hy
    rw [List.mem_range'_1]
    have := Nat.mod_lt (g ^ k) (show 0 < N by omega)
    have := nz k
    omega) (by simp) x (by rw [List.mem_range'_1]; omega)
  obtain ⟨k, _, hk⟩ := List.mem_map.1 this
  exact ⟨k, hk.symm⟩
theorem pratt (hN : 1 < N) {qs : List Nat} (hq : ∀ q ∈ qs, Pr q) (hp : prod qs = N - 1) (h1 : g ^ (N - 1) % N = 1) (h2 : ∀ q ∈ qs, g ^ ((N - 1) / q) % N ≠ 1) :
    Pr N ∧ ∀ x, x % N ≠ 0 → x ^ (N - 1) % N = 1 := by
  have hpw := powers hN h1 (order hN hq hp h1 h2)
  refine ⟨⟨hN, fun d hd => ?_⟩, fun x hx => ?_⟩
  · have hle := Nat.le_of_dvd (by omega) hd
    rcases Nat.eq_or_lt_of_le hle with h | h
    · exact .inr h
    · left
      have hd0 : 0 < d := Nat.pos_of_dvd_of_pos hd (by omega)
      obtain ⟨k, hk⟩ := hpw d hd0 h
      have hu := inv_pow h1 hN k
      rw [Nat.mul_mod, ← hk, ← Nat.mod_eq_of_lt h, ← Nat.mul_mod] at hu
      have hd1 : d ∣ d * g ^ (k * (N - 2)) % N := (Nat.dvd_mod_iff hd).2 (Nat.dvd_mul_right d _)
      rw [hu] at hd1
      exact Nat.dvd_one.1 hd1
  · obtain ⟨k, hk⟩ := hpw (x % N) (Nat.pos_of_ne_zero hx) (Nat.mod_lt x (by omega))
    rw [Nat.pow_mod, hk, ← Nat.pow_mod, ← Nat.pow_mul, Nat.mul_comm, Nat.pow_mul]
    exact pow_one_mod hN h1 k
/-- A certificate. -/
def certB (N g f : Nat) (qs : List Nat) : Bool :=
  Nat.blt 1 N && Nat.beq (prod qs) (N - 1) && Nat.blt (N - 1) (2 ^ f) && Nat.beq (pm N f g (N - 1)) 1 && qs.all fun q => !Nat.beq (pm N f g ((N - 1) / q)) 1
theorem cert {f : Nat} {qs : List Nat} (hq : ∀ q ∈ qs, Pr q) (h : certB N g f qs = true) : Pr N ∧ ∀ x, x % N ≠ 0 → x ^ (N - 1) % N = 1 := by
  unfold certB at h
  simp only [Bool.and_eq_true, Nat.blt_eq] at h
  obtain ⟨⟨⟨⟨h1, h2⟩, h3⟩, h4⟩, h5⟩ := h
  refine pratt (g := g) h1 hq (Nat.eq_of_beq_eq_true h2) ?_ fun q hqs e => ?_
  · rw [← pm_eq N f g (N - 1) h3]; exact Nat.eq_of_beq_eq_true h4
  · have := List.all_eq_true.1 h5 q hqs
    rw [pm_eq N f g _ (Nat.lt_of_le_of_lt (Nat.div_le_self _ _) h3), e] at this
    cases this
theorem pr2 : Pr 2 := ⟨by decide, fun d hd => by have := Nat.le_of_dvd (by decide) hd; have : d ≠ 0 := fun h => by subst h; exact absurd hd (by decide)
                                                 omega⟩
theorem all_nil {p : Nat → Prop} : ∀ q ∈ ([] : List Nat), p q := fun _ h => by cases h
theorem all_cons {p : Nat → Prop} {a : Nat} {l : List Nat} (h : p a) (hl : ∀ q ∈ l, p q) : ∀ q ∈ a :: l, p q := fun q hq => by
  rcases List.mem_cons.1 hq with rfl | hq
  · exact h
  · exact hl q hq
end
end Go.Gx

namespace Go.Gx
theorem pr3 : Pr 3 ∧ ∀ x, x % 3 ≠ 0 → x ^ (3 - 1) % 3 = 1 := cert (g := 2) (f := 3) (qs := [2]) (all_cons pr2 all_nil) (by decide +kernel)
theorem pr17 : Pr 17 ∧ ∀ x, x % 17 ≠ 0 → x ^ (17 - 1) % 17 = 1 := cert (g := 3) (f := 6) (qs := [2, 2, 2, 2]) (all_cons pr2 (all_cons pr2 (all_cons pr2 (all_cons pr2 all_nil)))) (by decide +kernel)
theorem pr7 : Pr 7 ∧ ∀ x, x % 7 ≠ 0 → x ^ (7 - 1) % 7 = 1 := cert (g := 3) (f := 4) (qs := [2, 3]) (all_cons pr2 (all_cons pr3.1 all_nil)) (by decide +kernel)
theorem pr239 : Pr 239 ∧ ∀ x, x % 239 ≠ 0 → x ^ (239 - 1) % 239 = 1 := cert (g := 7) (f := 9) (qs := [2, 7, 17]) (all_cons pr2 (all_cons pr7.1 (all_cons pr17.1 all_nil))) (by decide +kernel)
theorem pr479 : Pr 479 ∧ ∀ x, x % 479 ≠ 0 → x ^ (479 - 1) % 479 = 1 := cert (g := 13) (f := 10) (qs := [2, 239]) (all_cons pr2 (all_cons pr239.1 all_nil)) (by decide +kernel)
theorem pr32573 : Pr 32573 ∧ ∀ x, x % 32573 ≠ 0 → x ^ (32573 - 1) % 32573 = 1 := cert (g := 2) (f := 16) (qs := [2, 2, 17, 479]) (all_cons pr2 (all_cons pr2 (all_cons pr17.1 (all_cons pr479.1 all_nil)))) (by decide +kernel)
theorem pr65147 : Pr 65147 ∧ ∀ x, x % 65147 ≠ 0 → x ^ (65147 - 1) % 65147 = 1 := cert (g := 2) (f := 17) (qs := [2, 32573]) (all_cons pr2 (all_cons pr32573.1 all_nil)) (by decide +kernel)
theorem pr5 : Pr 5 ∧ ∀ x, x % 5 ≠ 0 → x ^ (5 - 1) % 5 = 1 := cert (g := 2) (f := 4) (qs := [2, 2]) (all_cons pr2 (all_cons pr2 all_nil)) (by decide +kernel)
theorem pr11 : Pr 11 ∧ ∀ x, x % 11 ≠ 0 → x ^ (11 - 1) % 11 = 1 := cert (g := 2) (f := 5) (qs := [2, 5]) (all_cons pr2 (all_cons pr5.1 all_nil)) (by decide +kernel)
theorem pr353 : Pr 353 ∧ ∀ x, x % 353 ≠ 0 → x ^ (353 - 1) % 353 = 1 := cert (g := 3) (f := 10) (qs := [2, 2, 2, 2, 2, 11]) (all_cons pr2 (all_cons pr2 (all_cons pr2 (all_cons pr2 (all_cons pr2 (all_cons pr11.1 all_nil)))))) (by decide +kernel)
theorem pr29 : Pr 29 ∧ ∀ x, x % 29 ≠ 0 → x ^ (29 - 1) % 29 = 1 := cert (g := 2) (f := 6) (qs := [2, 2, 7]) (all_cons pr2 (all_cons pr2 (all_cons pr7.1 all_nil))) (by decide +kernel)
theorem pr59 : Pr 59 ∧ ∀ x, x % 59 ≠ 0 → x ^ (59 - 1) % 59 = 1 := cert (g := 2) (f := 7) (qs := [2, 29]) (all_cons pr2 (all_cons pr29.1 all_nil)) (by decide +kernel)
theorem pr487 : Pr 487 ∧ ∀ x, x % 487 ≠ 0 → x ^ (487 - 1) % 487 = 1 := cert (g := 3) (f := 10) (qs := [2, 3, 3, 3, 3, 3]) (all_cons pr2 (all_cons pr3.1 (all_cons pr3.1 (all_cons pr3.1 (all_cons pr3.1 (all_cons pr3.1 all_nil)))))) (by decide +kernel)
theorem pr57467 : Pr 57467 ∧ ∀ x, x % 57467 ≠ 0 → x ^ (57467 - 1) % 57467 = 1 := cert (g := 2) (f := 17) (qs := [2, 59, 487]) (all_cons pr2 (all_cons pr59.1 (all_cons pr487.1 all_nil))) (by decide +kernel)
theorem pr13 : Pr 13 ∧ ∀ x, x % 13 ≠ 0 → x ^ (13 - 1) % 13 = 1 := cert (g := 2) (f := 5) (qs := [2, 2, 3]) (all_cons pr2 (all_cons pr2 (all_cons pr3.1 all_nil))) (by decide +kernel)
theorem pr131 : Pr 131 ∧ ∀ x, x % 131 ≠ 0 → x ^ (131 - 1) % 131 = 1 := cert (g := 2) (f := 9) (qs := [2, 5, 13]) (all_cons pr2 (all_cons pr5.1 (all_cons pr13.1 all_nil))) (by decide +kernel)
theorem pr132049 : Pr 132049 ∧ ∀ x, x % 132049 ≠ 0 → x ^ (132049 - 1) % 132049 = 1 := cert (g := 26) (f := 19) (qs := [2, 2, 2, 2, 3, 3, 7, 131]) (all_cons pr2 (all_cons pr2 (all_cons pr2 (all_cons pr2 (all_cons pr3.1 (all_cons pr3.1 (all_cons pr7.1 (all_cons pr131.1 all_nil)))))))) (by decide +kernel)
theorem pr43 : Pr 43 ∧ ∀ x, x % 43 ≠ 0 → x ^ (43 - 1) % 43 = 1 := cert (g := 3) (f := 7) (qs := [2, 3, 7]) (all_cons pr2 (all_cons pr3.1 (all_cons pr7.1 all_nil))) (by decide +kernel)
theorem pr23 : Pr 23 ∧ ∀ x, x % 23 ≠ 0 → x ^ (23 - 1) % 23 = 1 := cert (g := 5) (f := 6) (qs := [2, 11]) (all_cons pr2 (all_cons pr11.1 all_nil)) (by decide +kernel)
theorem pr3727 : Pr 3727 ∧ ∀ x, x % 3727 ≠ 0 → x ^ (3727 - 1) % 3727 = 1 := cert (g := 3) (f := 13) (qs := [2, 3, 3, 3, 3, 23]) (all_cons pr2 (all_cons pr3.1 (all_cons pr3.1 (all_cons pr3.1 (all_cons pr3.1 (all_cons pr23.1 all_nil)))))) (by decide +kernel)
theorem pr1923133 : Pr 1923133 ∧ ∀ x, x % 1923133 ≠ 0 → x ^ (1923133 - 1) % 1923133 = 1 := cert (g := 2) (f := 22) (qs := [2, 2, 3, 43, 3727]) (all_cons pr2 (all_cons pr2 (all_cons pr3.1 (all_cons pr43.1 (all_cons pr3727.1 all_nil))))) (by decide +kernel)
theorem pr31 : Pr 31 ∧ ∀ x, x % 31 ≠ 0 → x ^ (31 - 1) % 31 = 1 := cert (g := 3) (f := 6) (qs := [2, 3, 5]) (all_cons pr2 (all_cons pr3.1 (all_cons pr5.1 all_nil))) (by decide +kernel)
theorem pr53 : Pr 53 ∧ ∀ x, x % 53 ≠ 0 → x ^ (53 - 1) % 53 = 1 := cert (g := 2) (f := 7) (qs := [2, 2, 13]) (all_cons pr2 (all_cons pr2 (all_cons pr13.1 all_nil))) (by decide +kernel)
theorem pr107 : Pr 107 ∧ ∀ x, x % 107 ≠ 0 → x ^ (107 - 1) % 107 = 1 := cert (g := 2) (f := 8) (qs := [2, 53]) (all_cons pr2 (all_cons pr53.1 all_nil)) (by decide +kernel)
theorem pr37 : Pr 37 ∧ ∀ x, x % 37 ≠ 0 → x ^ (37 - 1) % 37 = 1 := cert (g := 2) (f := 7) (qs := [2, 2, 3, 3]) (all_cons pr2 (all_cons pr2 (all_cons pr3.1 (all_cons pr3.1 all_nil)))) (by decide +kernel)
theorem pr223 : Pr 223 ∧ ∀ x, x % 223 ≠ 0 → x ^ (223 - 1) % 223 = 1 := cert (g := 3) (f := 9) (qs := [2, 3, 37]) (all_cons pr2 (all_cons pr3.1 (all_cons pr37.1 all_nil))) (by decide +kernel)
theorem pr173 : Pr 173 ∧ ∀ x, x % 173 ≠ 0 → x ^ (173 - 1) % 173 = 1 := cert (g := 2) (f := 9) (qs := [2, 2, 43]) (all_cons pr2 (all_cons pr2 (all_cons pr43.1 all_nil))) (by decide +kernel)
theorem pr4153 : Pr 4153 ∧ ∀ x, x % 4153 ≠ 0 → x ^ (4153 - 1) % 4153 = 1 := cert (g := 5) (f := 14) (qs := [2, 2, 2, 3, 173]) (all_cons pr2 (all_cons pr2 (all_cons pr2 (all_cons pr3.1 (all_cons pr173.1 all_nil))))) (by decide +kernel)
theorem pr41 : Pr 41 ∧ ∀ x, x % 41 ≠ 0 → x ^ (41 - 1) % 41 = 1 := cert (g := 6) (f := 7) (qs := [2, 2, 2, 5]) (all_cons pr2 (all_cons pr2 (all_cons pr2 (all_cons pr5.1 all_nil)))) (by decide +kernel)
theorem pr1723 : Pr 1723 ∧ ∀ x, x % 1723 ≠ 0 → x ^ (1723 - 1) % 1723 = 1 := cert (g := 3) (f := 12) (qs := [2, 3, 7, 41]) (all_cons pr2 (all_cons pr3.1 (all_cons pr7.1 (all_cons pr41.1 all_nil)))) (by decide +kernel)
theorem pr430751 : Pr 430751 ∧ ∀ x, x % 430751 ≠ 0 → x ^ (430751 - 1) % 430751 = 1 := cert (g := 17) (f := 20) (qs := [2, 5, 5, 5, 1723]) (all_cons pr2 (all_cons pr5.1 (all_cons pr5.1 (all_cons pr5.1 (all_cons pr1723.1 all_nil))))) (by decide +kernel)
theorem pr31757755568855353 : Pr 31757755568855353 ∧ ∀ x, x % 31757755568855353 ≠ 0 → x ^ (31757755568855353 - 1) % 31757755568855353 = 1 := cert (g := 10) (f := 56) (qs := [2, 2, 2, 3, 31, 107, 223, 4153, 430751]) (all_cons pr2 (all_cons pr2 (all_cons pr2 (all_cons pr3.1 (all_cons pr31.1 (all_cons pr107.1 (all_cons pr223.1 (all_cons pr4153.1 (all_cons pr430751.1 all_nil))))))))) (by decide +kernel)
theorem pr19 : Pr 19 ∧ ∀ x, x % 19 ≠ 0 → x ^ (19 - 1) % 19 = 1 := cert (g := 2) (f := 6) (qs := [2, 3, 3]) (all_cons pr2 (all_cons pr3.1 (all_cons pr3.1 all_nil))) (by decide +kernel)
theorem pr83 : Pr 83 ∧ ∀ x, x % 83 ≠ 0 → x ^ (83 - 1) % 83 = 1 := cert (g := 2) (f := 8) (qs := [2, 41]) (all_cons pr2 (all_cons pr41.1 all_nil)) (by decide +kernel)
theorem pr9463 : Pr 9463 ∧ ∀ x, x % 9463 ≠ 0 → x ^ (9463 - 1) % 9463 = 1 := cert (g := 3) (f := 15) (qs := [2, 3, 19, 83]) (all_cons pr2 (all_cons pr3.1 (all_cons pr19.1 (all_cons pr83.1 all_nil)))) (by decide +kernel)
theorem pr37853 : Pr 37853 ∧ ∀ x, x % 37853 ≠ 0 → x ^ (37853 - 1) % 37853 = 1 := cert (g := 2) (f := 17) (qs := [2, 2, 9463]) (all_cons pr2 (all_cons pr2 (all_cons pr9463.1 all_nil))) (by decide +kernel)
theorem pr75707 : Pr 75707 ∧ ∀ x, x % 75707 ≠ 0 → x ^ (75707 - 1) % 75707 = 1 := cert (g := 2) (f := 18) (qs := [2, 37853]) (all_cons pr2 (all_cons pr37853.1 all_nil)) (by decide +kernel)
theorem pr47 : Pr 47 ∧ ∀ x, x % 47 ≠ 0 → x ^ (47 - 1) % 47 = 1 := cert (g := 5) (f := 7) (qs := [2, 23]) (all_cons pr2 (all_cons pr23.1 all_nil)) (by decide +kernel)
theorem pr127 : Pr 127 ∧ ∀ x, x % 127 ≠ 0 → x ^ (127 - 1) % 127 = 1 := cert (g := 3) (f := 8) (qs := [2, 3, 3, 7]) (all_cons pr2 (all_cons pr3.1 (all_cons pr3.1 (all_cons pr7.1 all_nil)))) (by decide +kernel)
theorem pr103 : Pr 103 ∧ ∀ x, x % 103 ≠ 0 → x ^ (103 - 1) % 103 = 1 := cert (g := 5) (f := 8) (qs := [2, 3, 17]) (all_cons pr2 (all_cons pr3.1 (all_cons pr17.1 all_nil))) (by decide +kernel)
theorem pr991 : Pr 991 ∧ ∀ x, x % 991 ≠ 0 → x ^ (991 - 1) % 991 = 1 := cert (g := 6) (f := 11) (qs := [2, 3, 3, 5, 11]) (all_cons pr2 (all_cons pr3.1 (all_cons pr3.1 (all_cons pr5.1 (all_cons pr11.1 all_nil))))) (by decide +kernel)
theorem pr8574133 : Pr 8574133 ∧ ∀ x, x % 8574133 ≠ 0 → x ^ (8574133 - 1) % 8574133 = 1 := cert (g := 2) (f := 25) (qs := [2, 2, 3, 7, 103, 991]) (all_cons pr2 (all_cons pr2 (all_cons pr3.1 (all_cons pr7.1 (all_cons pr103.1 (all_cons pr991.1 all_nil)))))) (by decide +kernel)
theorem pr1919519569386763 : Pr 1919519569386763 ∧ ∀ x, x % 1919519569386763 ≠ 0 → x ^ (1919519569386763 - 1) % 1919519569386763 = 1 := cert (g := 2) (f := 52) (qs := [2, 3, 7, 19, 47, 47, 127, 8574133]) (all_cons pr2 (all_cons pr3.1 (all_cons pr7.1 (all_cons pr19.1 (all_cons pr47.1 (all_cons pr47.1 (all_cons pr127.1 (all_cons pr8574133.1 all_nil)))))))) (by decide +kernel)
theorem pr2437 : Pr 2437 ∧ ∀ x, x % 2437 ≠ 0 → x ^ (2437 - 1) % 2437 = 1 := cert (g := 2) (f := 13) (qs := [2, 2, 3, 7, 29]) (all_cons pr2 (all_cons pr2 (all_cons pr3.1 (all_cons pr7.1 (all_cons pr29.1 all_nil))))) (by decide +kernel)
theorem pr97 : Pr 97 ∧ ∀ x, x % 97 ≠ 0 → x ^ (97 - 1) % 97 = 1 := cert (g := 5) (f := 8) (qs := [2, 2, 2, 2, 2, 3]) (all_cons pr2 (all_cons pr2 (all_cons pr2 (all_cons pr2 (all_cons pr2 (all_cons pr3.1 all_nil)))))) (by decide +kernel)
theorem pr419 : Pr 419 ∧ ∀ x, x % 419 ≠ 0 → x ^ (419 - 1) % 419 = 1 := cert (g := 2) (f := 10) (qs := [2, 11, 19]) (all_cons pr2 (all_cons pr11.1 (all_cons pr19.1 all_nil))) (by decide +kernel)
theorem pr569003 : Pr 569003 ∧ ∀ x, x % 569003 ≠ 0 → x ^ (569003 - 1) % 569003 = 1 := cert (g := 2) (f := 21) (qs := [2, 7, 97, 419]) (all_cons pr2 (all_cons pr7.1 (all_cons pr97.1 (all_cons pr419.1 all_nil)))) (by decide +kernel)
theorem pr2773320623 : Pr 2773320623 ∧ ∀ x, x % 2773320623 ≠ 0 → x ^ (2773320623 - 1) % 2773320623 = 1 := cert (g := 5) (f := 33) (qs := [2, 2437, 569003]) (all_cons pr2 (all_cons pr2437.1 (all_cons pr569003.1 all_nil))) (by decide +kernel)
theorem pr72106336199 : Pr 72106336199 ∧ ∀ x, x % 72106336199 ≠ 0 → x ^ (72106336199 - 1) % 72106336199 = 1 := cert (g := 7) (f := 38) (qs := [2, 13, 2773320623]) (all_cons pr2 (all_cons pr13.1 (all_cons pr2773320623.1 all_nil))) (by decide +kernel)
theorem pr75445702479781427272750846543864801 : Pr 75445702479781427272750846543864801 ∧ ∀ x, x % 75445702479781427272750846543864801 ≠ 0 → x ^ (75445702479781427272750846543864801 - 1) % 75445702479781427272750846543864801 = 1 := cert (g := 7) (f := 117) (qs := [2, 2, 2, 2, 2, 3, 3, 5, 5, 75707, 72106336199, 1919519569386763]) (all_cons pr2 (all_cons pr2 (all_cons pr2 (all_cons pr2 (all_cons pr2 (all_cons pr3.1 (all_cons pr3.1 (all_cons pr5.1 (all_cons pr5.1 (all_cons pr75707.1 (all_cons pr72106336199.1 (all_cons pr1919519569386763.1 all_nil)))))))))))) (by decide +kernel)
theorem pr74058212732561358302231226437062788676166966415465897661863160754340907 : Pr 74058212732561358302231226437062788676166966415465897661863160754340907 ∧ ∀ x, x % 74058212732561358302231226437062788676166966415465897661863160754340907 ≠ 0 → x ^ (74058212732561358302231226437062788676166966415465897661863160754340907 - 1) % 74058212732561358302231226437062788676166966415465897661863160754340907 = 1 := cert (g := 2) (f := 237) (qs := [2, 3, 353, 57467, 132049, 1923133, 31757755568855353, 75445702479781427272750846543864801]) (all_cons pr2 (all_cons pr3.1 (all_cons pr353.1 (all_cons pr57467.1 (all_cons pr132049.1 (all_cons pr1923133.1 (all_cons pr31757755568855353.1 (all_cons pr75445702479781427272750846543864801.1 all_nil)))))))) (by decide +kernel)
theorem pr57896044618658097711785492504343953926634992332820282019728792003956564819949 : Pr 57896044618658097711785492504343953926634992332820282019728792003956564819949 ∧ ∀ x, x % 57896044618658097711785492504343953926634992332820282019728792003956564819949 ≠ 0 → x ^ (57896044618658097711785492504343953926634992332820282019728792003956564819949 - 1) % 57896044618658097711785492504343953926634992332820282019728792003956564819949 = 1 := cert (g := 2) (f := 256) (qs := [2, 2, 3, 65147, 74058212732561358302231226437062788676166966415465897661863160754340907]) (all_cons pr2 (all_cons pr2 (all_cons pr3.1 (all_cons pr65147.1 (all_cons pr74058212732561358302231226437062788676166966415465897661863160754340907.1 all_nil))))) (by decide +kernel)
end Go.Gx


namespace Go.Proofs.Ytalnjdcidmkajaa
open Go Go.Gx
theorem pow_emod (N m : Int) (n : Nat) : (m % N) ^ n % N = m ^ n % N := by
  induction n with
  | zero => simp
  | succ n ih => rw [Int.pow_succ, Int.pow_succ, Int.mul_emod, ih, Int.emod_emod, ← Int.mul_emod]
/-- p less 1 -/
def PM : Nat := 57896044618658097711785492504343953926634992332820282019728792003956564819948
theorem p_prime : Pr 57896044618658097711785492504343953926634992332820282019728792003956564819949 := pr57896044618658097711785492504343953926634992332820282019728792003956564819949.1
theorem fermat {m : Int} (h : m % p ≠ 0) : m ^ PM % p = 1 := by
  obtain ⟨x, hx⟩ : ∃ x : Nat, m % p = (x : Int) := Int.eq_ofNat_of_zero_le (mp m).1
  have h2 := (mp m).2
  rw [hx] at h h2
  have h3 : x % 57896044618658097711785492504343953926634992332820282019728792003956564819949 = x := Nat.mod_eq_of_lt (by unfold p at h2; omega)
  have h1 := pr57896044618658097711785492504343953926634992332820282019728792003956564819949.2 x (by rw [h3]; omega)
  rw [show 57896044618658097711785492504343953926634992332820282019728792003956564819949 - 1 = PM by decide] at h1
  rw [← pow_emod, hx]
  generalize PM = n at *
  have h4 := congrArg (fun z : Nat => (z : Int)) h1
  simp only [Int.natCast_emod, Int.natCast_pow] at h4
  exact h4
theorem mod_mul_zero {x y : Int} (h : x * y % p = 0) : x % p = 0 ∨ y % p = 0 := by
  have hd : p ∣ x * y := Int.dvd_of_emod_eq_zero h
  have h1 : (57896044618658097711785492504343953926634992332820282019728792003956564819949 : Nat) ∣ x.natAbs * y.natAbs := by
    rw [← Int.natAbs_mul]
    exact Int.natAbs_dvd_natAbs.2 hd
  rcases p_prime.euclid h1 with h | h
  · exact .inl (Int.emod_eq_zero_of_dvd (Int.natAbs_dvd_natAbs.1 h))
  · exact .inr (Int.emod_eq_zero_of_dvd (Int.natAbs_dvd_natAbs.1 h))
theorem cg_mul {a b c d : Int} (h : a % p = b % p) (h' : c % p = d % p) : a * c % p = b * d % p := by rw [Int.mul_emod, h, h', ← Int.mul_emod]
theorem cg_sub {a b c d : Int} (h : a % p = b % p) (h' : c % p = d % p) : (a - c) % p = (b - d) % p := by rw [Int.sub_emod, h, h', ← Int.sub_emod]
theorem cg_add {a b c d : Int} (h : a % p = b % p) (h' : c % p = d % p) : (a + c) % p = (b + d) % p := by rw [Int.add_emod, h, h', ← Int.add_emod]
theorem sub_zero_mod {a b : Int} (h : (a - b) % p = 0) : a % p = b % p := by
  have := Int.emod_emod_of_dvd a (Int.dvd_refl p)
  have e := cg_add (a := a - b) (b := 0) (c := b) (d := b) (by rw [h]; rfl) rfl
  rwa [Int.sub_add_cancel, Int.zero_add] at e
theorem one_p : (1 : Int) % p = 1 := by decide
theorem inv_mul {m : Int} (h : m % p ≠ 0) : m * m ^ P2 % p = 1 := by
  have := fermat h
  rw [show PM = P2 + 1 by decide, Int.pow_succ, Int.mul_comm] at this
  exact this
theorem inv_nz {m : Int} (h : m % p ≠ 0) : m ^ P2 % p ≠ 0 := fun h0 => by
  have := inv_mul h
  rw [Int.mul_emod, h0, Int.mul_zero] at this
  exact absurd this (by decide)
theorem inv_inv {m : Int} (h : m % p ≠ 0) : (m ^ P2) ^ P2 % p = m % p := by
  have h1 := inv_mul h
  have h2 := inv_mul (inv_nz h)
  generalize m ^ P2 = y at *
  generalize y ^ P2 = z at *
  have e1 : z * (m * y) % p = z % p := by rw [Int.mul_emod, h1, Int.mul_one, Int.emod_emod]
  have e2 : z * (m * y) % p = m % p := by
    rw [show z * (m * y) = m * (y * z) by rw [Int.mul_left_comm, Int.mul_comm z y], Int.mul_emod, h2, Int.mul_one, Int.emod_emod]
  rw [← e1, e2]
theorem toB_eq {m n : Int} : (toB 32 (m % p) == toB 32 (n % p)) = decide (m % p = n % p) := by
  have h1 := mp m; have h2 := mp n
  by_cases h : m % p = n % p
  · rw [h, decide_eq_true rfl]; exact beq_self_eq_true _
  · rw [decide_eq_false h, beq_eq_false_iff_ne]
    intro e
    exact h (toB_inj h1.1 (Int.lt_trans h1.2 (by decide)) h2.1 (Int.lt_trans h2.2 (by decide)) e)
theorem z_toB : List.replicate 32 (0 : Int) = toB 32 ((0 : Int) % p) := by decide
theorem o_toB : (List.replicate 32 (0 : Int)).set 0 1 = toB 32 ((1 : Int) % p) := by decide
end Go.Proofs.Ytalnjdcidmkajaa


namespace Go.Proofs.Ytalnjdcidmkajaa
open Go Go.Gx
theorem is_spec (k : Nat) (hk : 50 ≤ k) {a b : List Int} {m n : Int} (ha : El a m) (hb : El b n) : field_Element_Is.f k a b = some (decide (m % p = n % p)) := by
  unfold field_Element_Is.f
  exact sbd (bytes_spec k hk ha) (sbd (bytes_spec k hk hb) (som toB_eq))
theorem and1_u8 (x : Int) (h₀ : 0 ≤ x) (h₁ : x < 256) : bits .and .u8 x 1 = x % 2 :=
  bits_mask .u8 8 (by decide) (fun x h h' => by simp [IntKind.wrap, IntKind.bits, IntKind.signed] at *; omega) 1 (by decide) x h₀ h₁
theorem head_toB (n : Int) : (toB 32 n).getD 0 0 = n % 256 := rfl
theorem odd_spec (k : Nat) (hk : 50 ≤ k) {a : List Int} {m : Int} (ha : El a m) : field_Element_Odd.f k a = some (decide (m % p % 2 = 1)) := by
  unfold field_Element_Odd.f
  refine sbd (bytes_spec k hk ha) (som ?_)
  rw [head_toB, and1_u8 _ (by omega) (by omega)]
  by_cases h : m % p % 2 = 1
  · rw [decide_eq_true h, beq_iff_eq]; omega
  · rw [decide_eq_false h, beq_eq_false_iff_ne]; omega
theorem El.zero : El (List.replicate 5 (0 : Int)) 0 := ⟨0, 0, 0, 0, 0, 0, rfl, by decide, by decide, by decide, by decide, by decide, by decide⟩
theorem El.one : El ((List.replicate 5 (0 : Int)).set 0 1) 1 := ⟨1, 0, 0, 0, 0, 0, rfl, by decide, by decide, by decide, by decide, by decide, by decide⟩
/-- a root of -1 -/
def RI : Int := 19681161376707505956807079304988542015446066515923890162744021073123829784752
theorem El.ri : El [1718705420411056, 234908883556509, 2233514472574048, 2117202627021982, 765476049583133] RI := ⟨_, _, _, _, _, 0, rfl, by decide, by decide, by decide, by decide, by decide, by decide⟩
theorem ri_sq : RI * RI % p = (0 - 1) % p := by decide
/-- what the root is made of -/
def R0 (u v : Int) : Int := u * (v * v * v) * (u * (v * v * v) * (v * v * v) * v) ^ P58
def R1 (u v : Int) : Int := if v * (R0 u v * R0 u v) % p = u % p then R0 u v else R0 u v * RI
def ev2 (x : Int) : Int := if x % p % 2 = 1 then 0 - x else x
theorem sq1 {m : Int} : m ^ (2 ^ 1) = m * m := by rw [show 2 ^ 1 = 2 by rfl, Int.pow_succ, Int.pow_succ, Int.pow_zero, Int.one_mul]
theorem sqr (k : Nat) (hk : 101 ≤ k) {a : List Int} {m : Int} (h : El a m) : ∃ c, field_Element_squared.f k a 1 = some c ∧ El c (m * m) := by
  obtain ⟨c, hc, hE⟩ := sq_spec k hk 1 (by decide) 1 rfl h
  exact ⟨c, hc, hE.eq sq1⟩
theorem ratio_spec (k : Nat) (hk : 101 ≤ k) {a b : List Int} {u v : Int} (ha : El a u) (hb : El b v) :
    ∃ c, field_Ratio.f k a b = some (c, decide (v * (R1 u v * R1 u v) % p = u % p)) ∧ El c (ev2 (R1 u v)) := by
  obtain ⟨r4, e4, h4⟩ := sqr k hk hb
  obtain ⟨r5, e5, h5⟩ := times_spec h4 hb
  obtain ⟨r7, e7, h7⟩ := times_spec ha h5
  obtain ⟨r8, e8, h8⟩ := sqr k hk h5
  obtain ⟨r9, e9, h9⟩ := times_spec ha h8
  obtain ⟨r10, e10, h10⟩ := times_spec h9 hb
  obtain ⟨r11, e11, h11⟩ := power58_spec k hk h10
  obtain ⟨r12, e12, h12⟩ := times_spec h7 h11
  have h12 : El r12 (R0 u v) := h12.eq (by unfold R0; rw [show u * (v * v * v * (v * v * v)) * v = u * (v * v * v) * (v * v * v) * v by rw [← Int.mul_assoc u]])
  obtain ⟨r14, e14, h14⟩ := sqr k hk h12
  obtain ⟨r15, e15, h15⟩ := times_spec hb h14
  have e17 := is_spec k (by omega) h15 ha
  obtain ⟨r19, e19, h19⟩ := times_spec h12 El.ri
  obtain ⟨r20, e20, h20⟩ := sqr k hk h19
  obtain ⟨r21, e21, h21⟩ := times_spec hb h20
  have part : ∃ m23 m24, field_Ratio.p1 k (decide (v * (R0 u v * R0 u v) % p = u % p)) b r12 r15 = some (m23, m24) ∧ El m23 (R1 u v) ∧ El m24 (v * (R1 u v * R1 u v)) := by
    unfold field_Ratio.p1
    by_cases h : v * (R0 u v * R0 u v) % p = u % p
    · rw [decide_eq_true h]
      exact ⟨r12, r15, rfl, h12.eq (by unfold R1; rw [if_pos h]), h15.eq (by unfold R1; rw [if_pos h])⟩
    · rw [decide_eq_false h]
      refine ⟨r19, r21, ?_, h19.eq (by unfold R1; rw [if_neg h]), h21.eq (by unfold R1; rw [if_neg h])⟩
      exact sbt rfl (sbd (x := field_RootOfMinusOne.f) rfl (sbd e19 (sbd e20 (sbd e21 rfl))))
  obtain ⟨m23, m24, ep, h23, h24⟩ := part
  have e25 := odd_spec k (by omega) h23
  obtain ⟨r26, e26, h26⟩ := minus_spec El.zero h23
  have e29 := is_spec k (by omega) h24 ha
  have part2 : ∃ m28, field_Ratio.p2 (decide (R1 u v % p % 2 = 1)) m23 = some m28 ∧ El m28 (ev2 (R1 u v)) := by
    unfold field_Ratio.p2 ev2
    by_cases h : R1 u v % p % 2 = 1
    · rw [decide_eq_true h, if_pos h]; exact ⟨r26, sbd e26 rfl, h26⟩
    · rw [decide_eq_false h, if_neg h]; exact ⟨m23, rfl, h23⟩
  obtain ⟨m28, e28, h28⟩ := part2
  refine ⟨m28, ?_, h28⟩
  unfold field_Ratio.f
  exact sbd e4 (sbd e5 (sbd e7 (sbd e8 (sbd e9 (sbd e10 (sbd e11 (sbd e12 (sbd e14 (sbd e15 (sbd e17 (sbd ep (sbd e25 (sbd e28 (sbd e29 rfl))))))))))))))
theorem ev2_even (x : Int) : ev2 x % p % 2 = 0 := by
  have h := mp x
  unfold ev2
  by_cases ho : x % p % 2 = 1
  · rw [if_pos ho]
    have h2 := mp (0 - x)
    have e : (0 - x) % p = p - x % p := by
      have e1 := Int.mul_ediv_add_emod x p
      refine emod_of (q := -(x / p) - 1) ?_ (by omega) (by omega)
      rw [Int.mul_sub, Int.mul_neg]; omega
    rw [e]; unfold p at *; omega
  · rw [if_neg ho]; omega
theorem ev2_sq (x : Int) : ev2 x * ev2 x = x * x := by
  unfold ev2
  split
  · rw [Int.zero_sub, Int.neg_mul_neg]
  · rfl
/-- (p + 3) / 8 -/
def P38 : Nat := 7237005577332262213973186563042994240829374041602535252466099000494570602494
theorem R0_one (u : Int) : R0 u 1 = u ^ P38 := by
  unfold R0
  simp only [Int.mul_one]
  rw [show P38 = P58 + 1 by decide, Int.pow_succ, Int.mul_comm]
theorem cg_pow {a b : Int} (n : Nat) (h : a % p = b % p) : a ^ n % p = b ^ n % p := by rw [← pow_emod, h, pow_emod]
/-- half of p less 1 -/
def PH : Nat := 28948022309329048855892746252171976963317496166410141009864396001978282409974
theorem half (m : Int) (h : m % p ≠ 0) : m ^ PH % p = 1 ∨ m ^ PH % p = (0 - 1) % p := by
  have h1 := fermat h
  rw [show PM = PH * 2 by decide, Int.pow_mul, Int.pow_succ, Int.pow_succ, Int.pow_zero, Int.one_mul] at h1
  generalize m ^ PH = y at *
  have h2 : (y - 1) * (y + 1) % p = 0 := by
    rw [show (y - 1) * (y + 1) = y * y - 1 by rw [Int.sub_mul, Int.mul_add, Int.mul_one, Int.one_mul]; omega, Int.sub_emod, h1]; decide
  rcases mod_mul_zero h2 with h3 | h3
  · left; rw [sub_zero_mod h3]; decide
  · right; exact sub_zero_mod (by rwa [show y - (0 - 1) = y + 1 by omega])
theorem root_sq {u A : Int} (h : u % p = A * A % p) : R1 u 1 * R1 u 1 % p = u % p := by
  have key : u ^ P38 * u ^ P38 % p = A * A * A ^ PH % p := by
    have e1 : u ^ P38 * u ^ P38 % p = (A * A) ^ P38 * (A * A) ^ P38 % p := cg_mul (cg_pow _ h) (cg_pow _ h)
    rw [e1]
    congr 1
    have : A * A = A ^ 2 := by rw [Int.pow_succ, Int.pow_succ, Int.pow_zero, Int.one_mul]
    rw [this, ← Int.pow_mul, ← Int.pow_add, ← Int.pow_add, show 2 * P38 + 2 * P38 = 2 + PH by decide]
  unfold R1
  rw [R0_one]
  simp only [Int.one_mul]
  by_cases hc : u ^ P38 * u ^ P38 % p = u % p
  · rw [if_pos hc]; exact hc
  · rw [if_neg hc]
    have hA : A % p ≠ 0 := fun h0 => by
      have h1 : A * A % p = 0 := by rw [Int.mul_emod, h0]; rfl
      refine hc ?_
      rw [key, h, Int.mul_emod, h1]; simp
    rcases half A hA with h1 | h1
    · exact absurd (by rw [key, h, Int.mul_emod, h1, Int.mul_one, Int.emod_emod]) hc
    · rw [show u ^ P38 * RI * (u ^ P38 * RI) = u ^ P38 * u ^ P38 * (RI * RI) by
        generalize u ^ P38 = y; rw [Int.mul_assoc, Int.mul_assoc, Int.mul_left_comm RI y RI]]
      have e2 : u ^ P38 * u ^ P38 * (RI * RI) % p = A * A * A ^ PH * (0 - 1) % p := cg_mul key ri_sq
      have e3 : A * A * A ^ PH * (0 - 1) % p = A * A * (0 - 1) * (0 - 1) % p := cg_mul (cg_mul rfl h1) rfl
      rw [e2, e3, h, show A * A * (0 - 1) * (0 - 1) = A * A by omega]
theorem sq_eq {x y : Int} (h : x * x % p = y * y % p) : x % p = y % p ∨ x % p = (0 - y) % p := by
  have h2 : (x - y) * (x + y) % p = 0 := by
    rw [show (x - y) * (x + y) = x * x - y * y by rw [Int.sub_mul, Int.mul_add, Int.mul_add, Int.mul_comm x y]; omega, Int.sub_emod, h]; simp
  rcases mod_mul_zero h2 with h3 | h3
  · exact .inl (sub_zero_mod h3)
  · exact .inr (sub_zero_mod (by rwa [show x - (0 - y) = x + y by omega]))
end Go.Proofs.Ytalnjdcidmkajaa

