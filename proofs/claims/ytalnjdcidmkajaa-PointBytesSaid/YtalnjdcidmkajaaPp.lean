/-
  Plain laws of points.
  Conditions: none.
-/
import Derived.Test.YtalnjdcidmkajaaPb
set_option linter.unusedVariables false
namespace Go.Gx
theorem setInts_get : ∀ (vs l : List Int) (j n : Nat), j + vs.length ≤ l.length → (setInts l j vs)[n]? = if j ≤ n ∧ n < j + vs.length then vs[n - j]? else l[n]?
  | [], l, j, n, _ => by
    exact (if_neg (by simp)).symm
  | v :: vs, l, j, n, h => by
    simp only [List.length_cons] at h
    rw [setInts, setInts_get vs (l.set j v) (j + 1) n (by rw [List.length_set]; omega)]
    by_cases h1 : j + 1 ≤ n ∧ n < j + 1 + vs.length
    · rw [if_pos h1, if_pos (by simp only [List.length_cons]; omega), show n - j = (n - (j + 1)) + 1 by omega, List.getElem?_cons_succ]
    · rw [if_neg h1]
      by_cases h2 : n = j
      · subst h2
        rw [if_pos (by simp only [List.length_cons]; omega), Nat.sub_self, List.getElem?_set_self (by omega)]; rfl
      · rw [if_neg (by simp only [List.length_cons]; omega), List.getElem?_set_ne (Ne.symm h2)]
theorem part_same {vs l : List Int} {j n : Nat} (h : j + vs.length ≤ l.length) (hn : vs.length = n) : ((setInts l j vs).drop j).take n = vs := by
  apply List.ext_getElem?
  intro m
  rw [List.getElem?_take]
  split
  · rename_i hm
    rw [List.getElem?_drop, setInts_get _ _ _ _ h, if_pos (by omega), show j + m - j = m by omega]
  · rename_i hm
    rw [List.getElem?_eq_none (by omega)]
theorem part_other {vs l : List Int} {i j n : Nat} (h : j + vs.length ≤ l.length) (hi : i + n ≤ j ∨ j + vs.length ≤ i) : ((setInts l j vs).drop i).take n = (l.drop i).take n := by
  apply List.ext_getElem?
  intro m
  rw [List.getElem?_take, List.getElem?_take]
  split
  · rw [List.getElem?_drop, List.getElem?_drop, setInts_get _ _ _ _ h, if_neg (by omega)]
  · rfl
end Go.Gx
namespace Go.Proofs.Ytalnjdcidmkajaa
open Go Go.Gx
structure Q4 where
  x : Int
  y : Int
  z : Int
  t : Int
/-- the curve's number, and twice that -/
def CD : Int := 37095705934669439343138083508754565189542113879843219016388785533085940283555
def CD2 : Int := 16295367250680780974490674513165176452449235426866156013048779062215315747161
def addQ (P Q : Q4) : Q4 :=
  let a := (P.y - P.x) * (Q.y - Q.x)
  let b := (P.y + P.x) * (Q.y + Q.x)
  let c := P.t * CD2 * Q.t
  let d := P.z * Q.z + P.z * Q.z
  ⟨(b - a) * (d - c), (d + c) * (b + a), (d - c) * (d + c), (b - a) * (b + a)⟩
def dblQ (P : Q4) : Q4 :=
  let a := P.x * P.x
  let b := P.y * P.y
  let c := P.z * P.z + P.z * P.z
  let s := P.x + P.y
  let h := a + b
  let e := h - s * s
  let g := a - b
  let f := c + g
  ⟨e * f, g * h, f * g, e * h⟩
def O4 : Q4 := ⟨0, 1, 1, 0⟩
def Pt (l : List Int) (q : Q4) : Prop := ∃ a b c d, l = a ++ b ++ c ++ d ∧ El a q.x ∧ El b q.y ∧ El c q.z ∧ El d q.t
theorem El.len {l : List Int} {m : Int} (h : El l m) : l.length = 5 := by obtain ⟨_, _, _, _, _, _, rfl, _⟩ := h; rfl
theorem Pt.parts {l : List Int} {q : Q4} (h : Pt l q) : l.length = 20 ∧ El ((l.drop 0).take 5) q.x ∧ El ((l.drop 5).take 5) q.y ∧ El ((l.drop 10).take 5) q.z ∧ El ((l.drop 15).take 5) q.t := by
  obtain ⟨a, b, c, d, rfl, ha, hb, hc, hd⟩ := h
  obtain ⟨a0, a1, a2, a3, a4, _, rfl, _⟩ := id ha
  obtain ⟨b0, b1, b2, b3, b4, _, rfl, _⟩ := id hb
  obtain ⟨c0, c1, c2, c3, c4, _, rfl, _⟩ := id hc
  obtain ⟨d0, d1, d2, d3, d4, _, rfl, _⟩ := id hd
  exact ⟨rfl, ha, hb, hc, hd⟩
theorem El.cd : El [929955233495203, 466365720129213, 1662059464998953, 2033849074728123, 1442794654840575] CD := ⟨_, _, _, _, _, 0, rfl, by decide, by decide, by decide, by decide, by decide, by decide⟩
theorem El.cd2 : El [1859910466990425, 932731440258426, 1072319116312658, 1815898335770999, 633789495995903] CD2 := ⟨_, _, _, _, _, 0, rfl, by decide, by decide, by decide, by decide, by decide, by decide⟩
def BX : Int := 15112221349535400772501151409588531511454012693041857206046113283949847762202
def BY : Int := 46316835694926478169428394003475163141307993866256225615783033603165251855960
theorem El.bx : El [1738742601995546, 1146398526822698, 2070867633025821, 562264141797630, 587772402128613] BX := ⟨_, _, _, _, _, 0, rfl, by decide, by decide, by decide, by decide, by decide, by decide⟩
theorem El.by' : El [1801439850948184, 1351079888211148, 450359962737049, 900719925474099, 1801439850948198] BY := ⟨_, _, _, _, _, 0, rfl, by decide, by decide, by decide, by decide, by decide, by decide⟩
theorem plus_pt (k : Nat) (hk : 6 ≤ k) {l m : List Int} {P Q : Q4} (hl : Pt l P) (hm : Pt m Q) : ∃ r, point_Point_Plus.f k l m = some r ∧ Pt r (addQ P Q) := by
  obtain ⟨_, hx, hy, hz, ht⟩ := hl.parts
  obtain ⟨_, gx, gy, gz, gt⟩ := hm.parts
  obtain ⟨r4, e4, h4⟩ := minus_spec hy hx
  obtain ⟨r5, e5, h5⟩ := minus_spec gy gx
  obtain ⟨r6, e6, h6⟩ := times_spec h4 h5
  obtain ⟨r8, e8, h8⟩ := plus_spec k hk hy hx
  obtain ⟨r9, e9, h9⟩ := plus_spec k hk gy gx
  obtain ⟨r10, e10, h10⟩ := times_spec h8 h9
  obtain ⟨r13, e13, h13⟩ := times_spec ht El.cd2
  obtain ⟨r14, e14, h14⟩ := times_spec h13 gt
  obtain ⟨r16, e16, h16⟩ := times_spec hz gz
  obtain ⟨r18, e18, h18⟩ := plus_spec k hk h16 h16
  obtain ⟨r19, e19, h19⟩ := minus_spec h10 h6
  obtain ⟨r20, e20, h20⟩ := minus_spec h18 h14
  obtain ⟨r21, e21, h21⟩ := plus_spec k hk h18 h14
  obtain ⟨r22, e22, h22⟩ := plus_spec k hk h10 h6
  obtain ⟨r27, e27, h27⟩ := times_spec h19 h20
  obtain ⟨r28, e28, h28⟩ := times_spec h21 h22
  obtain ⟨r29, e29, h29⟩ := times_spec h20 h21
  obtain ⟨r30, e30, h30⟩ := times_spec h19 h22
  refine ⟨r27 ++ r28 ++ r29 ++ r30, ?_, r27, r28, r29, r30, rfl, h27, h28, h29, h30⟩
  unfold point_Point_Plus.f
  exact sbd e4 (sbd e5 (sbd e6 (sbd e8 (sbd e9 (sbd e10 (sbd (x := point_twice.f) rfl (sbd e13 (sbd e14 (sbd e16 (sbd e18 (sbd e19 (sbd e20 (sbd e21 (sbd e22 (sbd e27 (sbd e28 (sbd e29 (sbd e30 rfl))))))))))))))))))
theorem dbl_pt (k : Nat) (hk : 6 ≤ k) {l : List Int} {P : Q4} (hl : Pt l P) : ∃ r, point_Point_Double.f k l = some r ∧ Pt r (dblQ P) := by
  obtain ⟨_, hx, hy, hz, ht⟩ := hl.parts
  obtain ⟨r3, e3, h3⟩ := times_spec hx hx
  obtain ⟨r4, e4, h4⟩ := times_spec hy hy
  obtain ⟨r7, e7, h7⟩ := times_spec hz hz
  obtain ⟨r9, e9, h9⟩ := plus_spec k hk h7 h7
  obtain ⟨r10, e10, h10⟩ := plus_spec k hk hx hy
  obtain ⟨r12, e12, h12⟩ := plus_spec k hk h3 h4
  obtain ⟨r14, e14, h14⟩ := times_spec h10 h10
  obtain ⟨r15, e15, h15⟩ := minus_spec h12 h14
  obtain ⟨r17, e17, h17⟩ := minus_spec h3 h4
  obtain ⟨r19, e19, h19⟩ := plus_spec k hk h9 h17
  obtain ⟨r21, e21, h21⟩ := times_spec h15 h19
  obtain ⟨r22, e22, h22⟩ := times_spec h17 h12
  obtain ⟨r23, e23, h23⟩ := times_spec h19 h17
  obtain ⟨r24, e24, h24⟩ := times_spec h15 h12
  refine ⟨r21 ++ r22 ++ r23 ++ r24, ?_, r21, r22, r23, r24, rfl, h21, h22, h23, h24⟩
  unfold point_Point_Double.f
  exact sbd e3 (sbd e4 (sbd e7 (sbd e9 (sbd e10 (sbd e12 (sbd e14 (sbd e15 (sbd e17 (sbd e19 (sbd e21 (sbd e22 (sbd e23 (sbd e24 rfl)))))))))))))
theorem origin_pt : ∃ r, point_Origin.f = some r ∧ Pt r O4 := ⟨_, rfl, _, _, _, _, rfl, El.zero, El.one, El.one, El.zero⟩
/-- the sixteen multiples -/
def tabQ (P : Q4) : Nat → Q4
  | 0 => O4
  | 1 => P
  | n + 2 => addQ (tabQ P (n + 1)) P
def Tab (P : Q4) (T : List Int) (m : Nat) : Prop := T.length = 320 ∧ ∀ i, i < m → Pt ((T.drop (i * 20)).take 20) (tabQ P i)
theorem Pt.len {l : List Int} {q : Q4} (h : Pt l q) : l.length = 20 := h.parts.1
theorem tab_loop {a0 : List Int} {P : Q4} (h0 : Pt a0 P) : ∀ (d k i : Nat) (T : List Int), i + d = 16 → 2 ≤ i → d + 10 ≤ k → Tab P T i → ∃ T', point_Point_Times.p1 k a0 T (i : Int) = some T' ∧ Tab P T' 16 := by
  intro d
  induction d with
  | zero =>
    intro k i T hi h2 hk h
    obtain ⟨k, rfl⟩ := Nat.exists_eq_add_of_le' (show 1 ≤ k by omega)
    have : i = 16 := by omega
    subst this
    exact ⟨T, rfl, h⟩
  | succ d ih =>
    intro k i T hi h2 hk h
    obtain ⟨k, rfl⟩ := Nat.exists_eq_add_of_le' (show 1 ≤ k by omega)
    obtain ⟨j, rfl⟩ : ∃ j, i = j + 2 := ⟨i - 2, by omega⟩
    have hp := h.2 (j + 1) (by omega)
    obtain ⟨r9, e9, h9⟩ := plus_pt k (by omega) hp h0
    have hl := h9.len
    have hT := h.1
    have hfit : (j + 2) * 20 + r9.length ≤ T.length := by rw [hl, hT]; omega
    have hTab : Tab P (setInts T ((j + 2) * 20) r9) (j + 2 + 1) := by
      refine ⟨by rw [setInts_length]; exact hT, fun n hn => ?_⟩
      by_cases hne : n = j + 2
      · subst hne
        rw [part_same hfit hl]; exact h9
      · rw [part_other hfit (by omega)]; exact h.2 n (by omega)
    obtain ⟨T', e', h'⟩ := ih k (j + 2 + 1) _ (by omega) (by omega) (by omega) hTab
    refine ⟨T', ?_, h'⟩
    rw [point_Point_Times.p1, decide_eq_true (show ((j + 2 : Nat) : Int) < 16 by omega)]
    show chk _ _ = _
    rw [wrap_i64_of (x := ((j + 2 : Nat) : Int) - 1) (by omega) (by omega), chk_pos ⟨by omega, by omega⟩, show (((j + 2 : Nat) : Int) - 1).toNat = j + 1 by omega]
    refine sbd e9 ?_
    rw [chk_pos ⟨by omega, by omega⟩, show (((j + 2 : Nat) : Int)).toNat = j + 2 by omega]
    exact lt_rw (y := ((j + 2 + 1 : Nat) : Int)) (by rw [wrap_i64_of (by omega) (by omega)]; omega) e'
def step4 (T : Nat → Q4) (A : Q4) (d : Nat) : Q4 := addQ (dblQ (dblQ (dblQ (dblQ A)))) (T d)
theorem digit_step (k : Nat) (hk : 6 ≤ k) {P A : Q4} {T y : List Int} (hT : Tab P T 16) (hy : Pt y A) (x19 : List Int) (i : Nat) (hi : i < 2) (v : Nat) (hv : v < 16) (hx : x19.getD i 0 = (v : Int)) :
    ∃ r, Pt r (step4 (tabQ P) A v) ∧ point_Point_Times.p3 (k + 1) x19 T y (i : Int) = point_Point_Times.p3 k x19 T r ((i + 1 : Nat) : Int) := by
  obtain ⟨r1, e1, h1⟩ := dbl_pt k hk hy
  obtain ⟨r2, e2, h2⟩ := dbl_pt k hk h1
  obtain ⟨r3, e3, h3⟩ := dbl_pt k hk h2
  obtain ⟨r4, e4, h4⟩ := dbl_pt k hk h3
  obtain ⟨r5, e5, h5⟩ := plus_pt k hk h4 (hT.2 v hv)
  refine ⟨r5, h5, ?_⟩
  rw [point_Point_Times.p3, decide_eq_true (show (i : Int) < 2 by omega)]
  show chk _ _ = _
  rw [chk_pos ⟨by omega, by omega⟩]
  refine lt_rw (y := (v : Int)) (by rw [show (i : Int).toNat = i by omega, hx]) ?_
  rw [chk_pos ⟨by omega, by omega⟩, show (v : Int).toNat = v by omega]
  exact sbd e1 (sbd e2 (sbd e3 (sbd e4 (sbd e5 (lt_rw (by rw [wrap_i64_of (by omega) (by omega)]; omega) rfl)))))
def byteStep (T : Nat → Q4) (A : Q4) (b : Nat) : Q4 := step4 T (step4 T A (b / 16)) (b % 16)
/-- so many bytes taken, from the highest on -/
def mulQ (P : Q4) (bs : Nat → Nat) : Nat → Q4
  | 0 => O4
  | n + 1 => byteStep (tabQ P) (mulQ P bs n) (bs (31 - n))
theorem mul_loop {P : Q4} {T a1 : List Int} (hT : Tab P T 16) (bs : Nat → Nat) (hbs : ∀ i, i < 32 → a1.getD i 0 = (bs i : Int) ∧ bs i < 256) : ∀ (d k n : Nat) (y : List Int), d + n = 32 → d + 20 ≤ k → Pt y (mulQ P bs n) →
    ∃ r, point_Point_Times.p2 k a1 T y ((d : Int) - 1) = some r ∧ Pt r (mulQ P bs 32) := by
  intro d
  induction d with
  | zero =>
    intro k n y hn hk h
    obtain ⟨k, rfl⟩ := Nat.exists_eq_add_of_le' (show 1 ≤ k by omega)
    have : n = 32 := by omega
    subst this
    exact ⟨y, rfl, h⟩
  | succ d ih =>
    intro k n y hn hk h
    obtain ⟨k, rfl⟩ := Nat.exists_eq_add_of_le' (show 4 ≤ k by omega)
    obtain ⟨hb, hb2⟩ := hbs d (by omega)
    obtain ⟨x19, ex⟩ : ∃ x19 : List Int, x19 = [((bs d / 16 : Nat) : Int), ((bs d % 16 : Nat) : Int)] := ⟨_, rfl⟩
    obtain ⟨r1, h1, e1⟩ := digit_step (k + 2) (by omega) hT h x19 0 (by decide) (bs d / 16) (by omega) (by rw [ex]; rfl)
    obtain ⟨r2, h2, e2⟩ := digit_step (k + 1) (by omega) hT h1 x19 1 (by decide) (bs d % 16) (by omega) (by rw [ex]; rfl)
    have h3 : Pt r2 (mulQ P bs (n + 1)) := by rw [mulQ, show 31 - n = d by omega]; exact h2
    obtain ⟨r, er, hr⟩ := ih (k + 3) (n + 1) r2 (by omega) (by omega) h3
    refine ⟨r, ?_, hr⟩
    rw [point_Point_Times.p2, show ((d + 1 : Nat) : Int) - 1 = (d : Int) by omega, decide_eq_true (show (d : Int) ≥ 0 by omega)]
    show chk _ _ = _
    rw [chk_pos ⟨by omega, by omega⟩, show (d : Int).toNat = d by omega, hb]
    refine lt_rwl (y := x19) ?_ (sbd (e1.trans (e2.trans rfl)) (lt_rw (wrap_i64_of (by omega) (by omega)) er))
    rw [ex, fd _ _ (by decide), show (15 : Int) = 2 ^ 4 - 1 by decide, bits_mask .u8 8 (by decide) wraps_u8 4 (by decide) _ (by omega) (by omega)]
    congr 1
theorem times_pt (k : Nat) (hk : 60 ≤ k) {a0 a1 : List Int} {P : Q4} (h0 : Pt a0 P) (h1 : By a1 32) : ∃ r, point_Point_Times.f k a0 a1 = some r ∧ Pt r (mulQ P (fun i => (a1.getD i 0).toNat) 32) := by
  obtain ⟨r4, e4, h4⟩ := origin_pt
  have hl0 := h0.len
  have hl4 := h4.len
  have hTab : Tab P (r4 ++ a0 ++ List.replicate 280 (0 : Int)) 2 := by
    refine ⟨by rw [List.length_append, List.length_append, List.length_replicate, hl0, hl4], fun i hi => ?_⟩
    rcases (show i = 0 ∨ i = 1 by omega) with rfl | rfl
    · have : ((r4 ++ a0 ++ List.replicate 280 (0 : Int)).drop (0 * 20)).take 20 = r4 := by
        rw [Nat.zero_mul, List.drop_zero, List.append_assoc, ← hl4, List.take_left]
      rw [this]; exact h4
    · have : ((r4 ++ a0 ++ List.replicate 280 (0 : Int)).drop (1 * 20)).take 20 = a0 := by
        rw [Nat.one_mul, List.append_assoc]
        conv => lhs; arg 2; arg 1; rw [← hl4]
        rw [List.drop_left]
        conv => lhs; arg 1; rw [← hl0]
        rw [List.take_left]
      rw [this]; exact h0
  obtain ⟨T, eT, hT⟩ := tab_loop h0 14 k 2 _ rfl (by decide) (by omega) hTab
  obtain ⟨r, er, hr⟩ := mul_loop (a1 := a1) hT (fun i => (a1.getD i 0).toNat) (fun i hi => by
    have := getD_u8 a1 h1.2 i
    omega) 32 k 0 r4 rfl (by omega) h4
  refine ⟨r, ?_, hr⟩
  unfold point_Point_Times.f
  exact sbd e4 (sbd eT (sbd e4 (sbd er rfl)))
/-- a point's bytes -/
def enc (q : Q4) : List Int := if q.x * q.z ^ P2 % p % 2 = 1 then (toB 32 (q.y * q.z ^ P2 % p)).set 31 (bits .or .u8 ((toB 32 (q.y * q.z ^ P2 % p)).getD 31 0) 128) else toB 32 (q.y * q.z ^ P2 % p)
theorem bytes_pt (k : Nat) (hk : 101 ≤ k) {l : List Int} {P : Q4} (h : Pt l P) : point_Point_Bytes.f k l = some (enc P) := by
  obtain ⟨_, hx, hy, hz, ht⟩ := h.parts
  obtain ⟨r3, e3, h3⟩ := inverse_spec k hk hz
  obtain ⟨r5, e5, h5⟩ := times_spec hy h3
  have e6 := bytes_spec k (by omega) h5
  obtain ⟨r8, e8, h8⟩ := times_spec hx h3
  have e9 := odd_spec k (by omega) h8
  unfold point_Point_Bytes.f
  refine sbd e3 (sbd e5 (sbd e6 (sbd e8 (sbd e9 (sbd (a := enc P) ?_ rfl)))))
  unfold point_Point_Bytes.p1 enc
  by_cases ho : P.x * P.z ^ P2 % p % 2 = 1
  · rw [if_pos ho, decide_eq_true ho]; rfl
  · rw [if_neg ho, decide_eq_false ho]; rfl
def B4 : Q4 := ⟨BX, BY, 1, BX * BY⟩
theorem b_pt : ∃ r, point_B.f = some r ∧ Pt r B4 := by
  obtain ⟨r7, e7, h7⟩ := times_spec El.bx El.by'
  refine ⟨_, ?_, _, _, _, _, rfl, El.bx, El.by', El.one, h7⟩
  unfold point_B.f
  exact lt_rwl rfl (lt_rwl rfl (sbd (x := field_One.f) rfl (sbd e7 rfl)))
theorem base_law (k : Nat) (hk : 101 ≤ k) {a : List Int} (h : By a 32) : point_Base.f k a = some (enc (mulQ B4 (fun i => (a.getD i 0).toNat) 32)) := by
  obtain ⟨r3, e3, h3⟩ := b_pt
  obtain ⟨r4, e4, h4⟩ := times_pt k (by omega) h3 h
  unfold point_Base.f
  exact sbd e3 (sbd e4 (sbd (bytes_pt k hk h4) rfl))
theorem generator_law (k : Nat) (hk : 101 ≤ k) : point_Generator.f k = some (enc B4) := by
  obtain ⟨r3, e3, h3⟩ := b_pt
  unfold point_Generator.f
  exact sbd e3 (sbd (bytes_pt k hk h3) rfl)
end Go.Proofs.Ytalnjdcidmkajaa

namespace Go.Proofs.Ytalnjdcidmkajaa
open Go Go.Gx
def frc {α : Type} (x : Nat) (f : Nat → α) : α := match x with | 0 => f 0 | n + 1 => f (n + 1)
theorem frc_eq {α : Type} (x : Nat) (f : Nat → α) : frc x f = f x := by cases x <;> rfl
def PN : Nat := 57896044618658097711785492504343953926634992332820282019728792003956564819949
def CD2N : Nat := 16295367250680780974490674513165176452449235426866156013048779062215315747161
theorem PN_p : (PN : Int) = p := rfl
theorem PN_pos : 0 < PN := by decide
theorem nm (m : Nat) : ((m % PN : Nat) : Int) % p = (m : Int) % p := by rw [Int.natCast_emod, PN_p, Int.emod_emod]
theorem nadd {a b : Nat} {m n : Int} (ha : (a : Int) % p = m % p) (hb : (b : Int) % p = n % p) : (((a + b) % PN : Nat) : Int) % p = (m + n) % p := by rw [nm, Int.natCast_add]; exact cg_add ha hb
theorem nmul {a b : Nat} {m n : Int} (ha : (a : Int) % p = m % p) (hb : (b : Int) % p = n % p) : (((a * b) % PN : Nat) : Int) % p = (m * n) % p := by rw [nm, Int.natCast_mul]; exact cg_mul ha hb
theorem nsub {a b : Nat} {m n : Int} (ha : (a : Int) % p = m % p) (hb : (b : Int) % p = n % p) (h : b < PN) : (((a + (PN - b)) % PN : Nat) : Int) % p = (m - n) % p := by
  rw [nm, Int.natCast_add, Int.natCast_sub (Nat.le_of_lt h), PN_p, show (a : Int) + (p - b) = a - b + p by omega, Int.add_emod_right]
  exact cg_sub ha hb
theorem nlt (m : Nat) : m % PN < PN := Nat.mod_lt _ PN_pos
theorem npow {a : Nat} {m : Int} (ha : (a : Int) % p = m % p) (n : Nat) (hn : n < 2 ^ 256) : ((pm PN 256 a n : Nat) : Int) % p = m ^ n % p := by
  rw [pm_eq PN 256 a n hn, nm, Int.natCast_pow]
  exact cg_pow n ha
def CQ (x y z t : Nat) (q : Q4) : Prop := ((x : Int) % p = q.x % p ∧ x < PN) ∧ ((y : Int) % p = q.y % p ∧ y < PN) ∧ ((z : Int) % p = q.z % p ∧ z < PN) ∧ ((t : Int) % p = q.t % p ∧ t < PN)
def dblN {α : Type} (x y z : Nat) (K : Nat → Nat → Nat → Nat → α) : α :=
  frc (x * x % PN) fun a => frc (y * y % PN) fun b => frc (z * z % PN) fun zz => frc ((zz + zz) % PN) fun c => frc ((x + y) % PN) fun s => frc ((a + b) % PN) fun h => frc (s * s % PN) fun ss => frc ((h + (PN - ss)) % PN) fun e =>
  frc ((a + (PN - b)) % PN) fun g => frc ((c + g) % PN) fun f => frc (e * f % PN) fun X => frc (g * h % PN) fun Y => frc (f * g % PN) fun Z => frc (e * h % PN) fun T => K X Y Z T
def addN {α : Type} (x1 y1 z1 t1 x2 y2 z2 t2 : Nat) (K : Nat → Nat → Nat → Nat → α) : α :=
  frc ((y1 + (PN - x1)) % PN * ((y2 + (PN - x2)) % PN) % PN) fun a => frc ((y1 + x1) % PN * ((y2 + x2) % PN) % PN) fun b => frc (t1 * CD2N % PN * t2 % PN) fun c => frc (z1 * z2 % PN) fun zz => frc ((zz + zz) % PN) fun d =>
  frc ((b + (PN - a)) % PN) fun e => frc ((d + (PN - c)) % PN) fun f => frc ((d + c) % PN) fun g => frc ((b + a) % PN) fun h =>
  frc (e * f % PN) fun X => frc (g * h % PN) fun Y => frc (f * g % PN) fun Z => frc (e * h % PN) fun T => K X Y Z T
theorem dblN_ind {α : Type} {Good : α → Prop} {x y z t : Nat} {q : Q4} (hq : CQ x y z t q) {K : Nat → Nat → Nat → Nat → α} (h : ∀ X Y Z T, CQ X Y Z T (dblQ q) → Good (K X Y Z T)) : Good (dblN x y z K) := by
  obtain ⟨⟨hx, _⟩, ⟨hy, _⟩, ⟨hz, _⟩, _⟩ := hq
  unfold dblN
  simp only [frc_eq]
  have ha := nmul hx hx
  have hb := nmul hy hy
  have hc := nadd (nmul hz hz) (nmul hz hz)
  have hs := nadd hx hy
  have hh := nadd ha hb
  have he := nsub hh (nmul hs hs) (nlt _)
  have hg := nsub ha hb (nlt _)
  have hf := nadd hc hg
  exact h _ _ _ _ ⟨⟨nmul he hf, nlt _⟩, ⟨nmul hg hh, nlt _⟩, ⟨nmul hf hg, nlt _⟩, ⟨nmul he hh, nlt _⟩⟩
theorem addN_ind {α : Type} {Good : α → Prop} {x1 y1 z1 t1 x2 y2 z2 t2 : Nat} {P Q : Q4} (hP : CQ x1 y1 z1 t1 P) (hQ : CQ x2 y2 z2 t2 Q) {K : Nat → Nat → Nat → Nat → α} (h : ∀ X Y Z T, CQ X Y Z T (addQ P Q) → Good (K X Y Z T)) : Good (addN x1 y1 z1 t1 x2 y2 z2 t2 K) := by
  obtain ⟨⟨hx, lx⟩, ⟨hy, _⟩, ⟨hz, _⟩, ⟨ht, _⟩⟩ := hP
  obtain ⟨⟨gx, mx⟩, ⟨gy, _⟩, ⟨gz, _⟩, ⟨gt, _⟩⟩ := hQ
  unfold addN
  simp only [frc_eq]
  have ha := nmul (nsub hy hx lx) (nsub gy gx mx)
  have hb := nmul (nadd hy hx) (nadd gy gx)
  have hc := nmul (nmul ht (show ((CD2N : Nat) : Int) % p = CD2 % p from rfl)) gt
  have hd := nadd (nmul hz gz) (nmul hz gz)
  have he := nsub hb ha (nlt _)
  have hf := nsub hd hc (nlt _)
  have hg := nadd hd hc
  have hh := nadd hb ha
  exact h _ _ _ _ ⟨⟨nmul he hf, nlt _⟩, ⟨nmul hg hh, nlt _⟩, ⟨nmul hf hg, nlt _⟩, ⟨nmul he hh, nlt _⟩⟩
abbrev N4 := Nat × Nat × Nat × Nat
def dig {α : Type} (tb : List N4) (d x y z : Nat) (K : Nat → Nat → Nat → Nat → α) : α :=
  dblN x y z fun a b c _ => dblN a b c fun a b c _ => dblN a b c fun a b c _ => dblN a b c fun a b c e => match tb.getD d (0, 1, 1, 0) with | (x2, y2, z2, t2) => addN a b c e x2 y2 z2 t2 K
def goQ (bs : Nat → Nat) (tb : List N4) : Nat → Nat → Nat → Nat → Nat → N4
  | 0, x, y, z, t => (x, y, z, t)
  | i + 1, x, y, z, _ => dig tb (bs i / 16) x y z fun x y z _ => dig tb (bs i % 16) x y z fun x y z t => goQ bs tb i x y z t
def CQ' (v : N4) (q : Q4) : Prop := CQ v.1 v.2.1 v.2.2.1 v.2.2.2 q
theorem dig_ind {α : Type} {Good : α → Prop} {tb : List N4} {T : Nat → Q4} (htb : ∀ d, d < 16 → CQ' (tb.getD d (0, 1, 1, 0)) (T d)) {d x y z t : Nat} (hd : d < 16) {q : Q4} (hq : CQ x y z t q) {K : Nat → Nat → Nat → Nat → α}
    (h : ∀ X Y Z W, CQ X Y Z W (step4 T q d) → Good (K X Y Z W)) : Good (dig tb d x y z K) := by
  unfold dig
  refine dblN_ind hq fun a b c e h1 => dblN_ind h1 fun a b c e h2 => dblN_ind h2 fun a b c e h3 => dblN_ind h3 fun a b c e h4 => ?_
  exact addN_ind h4 (htb d hd) h
theorem goQ_spec {P : Q4} {bs : Nat → Nat} (hbs : ∀ i, bs i < 256) {tb : List N4} (htb : ∀ d, d < 16 → CQ' (tb.getD d (0, 1, 1, 0)) (tabQ P d)) : ∀ (i n x y z t : Nat), i + n = 32 → CQ x y z t (mulQ P bs n) → CQ' (goQ bs tb i x y z t) (mulQ P bs 32) := by
  intro i
  induction i with
  | zero =>
    intro n x y z t hn h
    have : n = 32 := by omega
    subst this
    exact h
  | succ i ih =>
    intro n x y z t hn h
    unfold goQ
    have := hbs i
    refine dig_ind (Good := fun v => CQ' v (mulQ P bs 32)) htb (by omega) h fun X Y Z W h1 => dig_ind (Good := fun v => CQ' v (mulQ P bs 32)) htb (by omega) h1 fun X Y Z W h2 => ?_
    exact ih (n + 1) X Y Z W (by omega) (by rw [mulQ, show 31 - n = i by omega]; exact h2)
/-- the generator's sixteen multiples -/
def tblB : List N4 := [(0, 1, 1, 0), (15112221349535400772501151409588531511454012693041857206046113283949847762202, 46316835694926478169428394003475163141307993866256225615783033603165251855960, 1, 46827403850823179245072216630277197565144205554125654976674165829533817101731), (26883520653101733888824139182319689719343092404687251721493239344894375351934, 23261637645573139634066509743476160005486969243270575189348263183774273634430, 40660300372986216901848588050997382902664679514866213092364463299443684050440, 14216112579202175277535758111210187178371834370645531223445880664346736646537), (56301889647104673030341353789925614072068167998708023401780050093429597534432, 13986090657819004549211422155530192631782592321531691581031264560857541205159, 455765892419428602303970819347932192762811136693415733252842881880420687614, 8183757361224434991382593172885250736884032382672055381100082070024959820987), (23197316746682137658487753814694637550837603101346191093668207172644967360191, 55755159111342471132708473709989135413752952857057988548665654794180019744770, 1971637863633247841617451804960054392857332397230032358963871280450295096525, 40539236718722673024053576499751733433162581194985029906778799683827034136039), (19312782135862747090625208536168085177080535046247175336964212893982421183441, 47823035174234787501960624183316423801206544181041214150239591090896004619123, 39170889537736303729173030807484434374879111151999115283171631742527681710173, 36642219666148417267455069251282703942958048117700349950222250128369998584804), (12607126311778669622891933143814512448446313914447742470737605393663511873531, 18547020663657842580472131004678986100208085920600861444217902108367177863991, 35547588282040105131048807197548804862401377161819922542055157107901715864989, 19145462255972623093322604679828067700974960389179425623886891699518895022555), (13215140498175413545992636702865680408336425085482209607500438945530748085809, 37739561272450595470432416240096507814109797829176432021884900817123619986273, 35712087293895786908456706272240976767353655897736865320589010911284283156132, 46462184078940674296376582907620182286531385492086976083587628235077434634140), (40330184377045823895813671928277122651875862627927314225626833332636782219737, 13371275241588743331940166133495125756707328427517196854722423948581573032700, 51066190684612752033254583834758918955709599623808880884297235984716040328693, 47183435937697797313463366473042091704679066370446678454776859745828548553197), (57559997088508364930258062617114495959511959202339918835817906100551777951529, 53948053552621002427057863133058429035787832546121966863680820774188795593488, 23962445735161928316284670852281905887038645201170207019845911142044861132641, 27910963556910596670407017631022082976632976684920506700273068054301810813943), (56385015041538678732007120136221030662335153792432952059092576949294903061079, 615904534905731249929421652971624562694881655023367517674220968888281227475, 46169141894724509907408436777640435460347497134519103911764881889638126853547, 12078092086984078874531853874546101223668685213935006717134947822972034563430), (26249642165302944175608542392442356802453362580900602361657283278199213287700, 38148839988594772585138976248297976231700885330681395255193216134301971332013, 16672108351153667560047910796016656212312208954093406594965333698708457590026, 37590783448379863647822737650472804580123807660155269460378753218050007271732), (34696566450606095661412945946476406666443646716205212574151735361453452881896, 54397396809615103614245645443950705774098248194091847202617450599672322613575, 6326309750132807565013790571812003393295843174265245531019293571969322126984, 12099412149937922681717115926634344395510155518160696661633365862868989293634), (2775554372127853391065857078226872801968795821668821331758083287474676076692, 7981467508894270637541824171859037047975345351528266061850406642664267696505, 40542334000428314251260540060436336565353510417401125397010890275971752863956, 20808570996893651488430626599760987663640159482542479532243967275384095768566), (44532397885343621282809749083083672173501895736938484368814783689390014488335, 12825996268414907214938138414419147595559011113794418520149414252101033483901, 21973453880190796034836791868071796210543120317165697787872136308316496194705, 28202909139883760477719801987258611179249469618591889697278040547737451975413), (26648394518608137072183802582287953382676768100238415465241020876589450848357, 57721873599926792066591097217750828450441717805112906835129024715614092476691, 37636181322471364599795250922644333393888032710810096261494261587301870668324, 22905350236375352658191914341762060077010198330396400592247826872299561068913)]
theorem tblB_ok : ∀ d, d < 16 → CQ' (tblB.getD d (0, 1, 1, 0)) (tabQ B4 d) := by
  have hB : CQ' (tblB.getD 1 (0, 1, 1, 0)) B4 := ⟨⟨rfl, by decide⟩, ⟨rfl, by decide⟩, ⟨rfl, by decide⟩, ⟨by decide, by decide⟩⟩
  have chk : (List.range 14).all (fun i => decide (addN (tblB.getD (i + 1) (0, 1, 1, 0)).1 (tblB.getD (i + 1) (0, 1, 1, 0)).2.1 (tblB.getD (i + 1) (0, 1, 1, 0)).2.2.1 (tblB.getD (i + 1) (0, 1, 1, 0)).2.2.2
    (tblB.getD 1 (0, 1, 1, 0)).1 (tblB.getD 1 (0, 1, 1, 0)).2.1 (tblB.getD 1 (0, 1, 1, 0)).2.2.1 (tblB.getD 1 (0, 1, 1, 0)).2.2.2 (fun X Y Z T => (X, Y, Z, T)) = tblB.getD (i + 2) (0, 1, 1, 0))) = true := by decide +kernel
  have step : ∀ d, d < 15 → CQ' (tblB.getD (d + 1) (0, 1, 1, 0)) (tabQ B4 (d + 1)) := by
    intro d
    induction d with
    | zero => intro _; exact hB
    | succ d ih =>
      intro hd
      have h1 := ih (by omega)
      have h2 := of_decide_eq_true (List.all_eq_true.1 chk d (List.mem_range.2 (by omega)))
      rw [← h2]
      exact addN_ind (Good := fun v => CQ' v (tabQ B4 (d + 2))) h1 hB fun X Y Z T h => h
  intro d hd
  cases d with
  | zero => exact ⟨⟨rfl, by decide⟩, ⟨rfl, by decide⟩, ⟨rfl, by decide⟩, ⟨rfl, by decide⟩⟩
  | succ d => exact step d (by omega)
theorem enc_of {x y z : Nat} {q : Q4} (hx : (x : Int) % p = q.x % p) (hy : (y : Int) % p = q.y % p) (hz : (z : Int) % p = q.z % p) {X Y : Nat} (eX : x * pm PN 256 z P2 % PN = X) (eY : y * pm PN 256 z P2 % PN = Y) :
    enc q = if (X : Int) % 2 = 1 then (toB 32 (Y : Int)).set 31 (bits .or .u8 ((toB 32 (Y : Int)).getD 31 0) 128) else toB 32 (Y : Int) := by
  have hp := npow hz P2 (by decide)
  have h1 := nmul hx hp
  have h2 := nmul hy hp
  rw [eX] at h1
  rw [eY] at h2
  have lt : ∀ m : Nat, m < PN → (m : Int) % p = m := fun m hm => Int.emod_eq_of_lt (Int.natCast_nonneg _) (by rw [← PN_p]; omega)
  rw [lt X (by rw [← eX]; exact nlt _)] at h1
  rw [lt Y (by rw [← eY]; exact nlt _)] at h2
  unfold enc
  rw [← h1, ← h2]
/-- a row of 32 bytes by the values -/
theorem base_of (k : Nat) (hk : 101 ≤ k) {a : List Int} (h : By a 32) (bs : Nat → Nat) (hbs : (List.range 32).all (fun i => decide ((a.getD i 0).toNat = bs i)) = true) {X Y : Nat}
    (hv : (match goQ bs tblB 32 0 1 1 0 with | (x, y, z, _) => Nat.beq (x * pm PN 256 z P2 % PN) X && Nat.beq (y * pm PN 256 z P2 % PN) Y) = true) (hb : ∀ i, bs i < 256) :
    point_Base.f k a = some (if (X : Int) % 2 = 1 then (toB 32 (Y : Int)).set 31 (bits .or .u8 ((toB 32 (Y : Int)).getD 31 0) 128) else toB 32 (Y : Int)) := by
  rw [base_law k hk h]
  have he : ∀ n, n ≤ 32 → mulQ B4 (fun i => (a.getD i 0).toNat) n = mulQ B4 bs n := by
    intro n
    induction n with
    | zero => intro _; rfl
    | succ n ih =>
      intro hn
      have := of_decide_eq_true (List.all_eq_true.1 hbs (31 - n) (List.mem_range.2 (by omega)))
      rw [mulQ, mulQ, ih (by omega)]
      show byteStep _ _ ((a.getD (31 - n) 0).toNat) = _
      rw [this]
  rw [he 32 (Nat.le_refl _)]
  have hg := goQ_spec (P := B4) hb tblB_ok 32 0 0 1 1 0 rfl ⟨⟨rfl, by decide⟩, ⟨rfl, by decide⟩, ⟨rfl, by decide⟩, ⟨rfl, by decide⟩⟩
  generalize goQ bs tblB 32 0 1 1 0 = v at *
  obtain ⟨x, y, z, t⟩ := v
  simp only [Bool.and_eq_true] at hv
  rw [enc_of hg.1.1 hg.2.1.1 hg.2.2.1.1 (Nat.eq_of_beq_eq_true hv.1) (Nat.eq_of_beq_eq_true hv.2)]
end Go.Proofs.Ytalnjdcidmkajaa

