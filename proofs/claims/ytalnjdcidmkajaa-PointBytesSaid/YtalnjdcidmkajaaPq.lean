/-
  Plain laws of points' bytes; PointOrder.
  Conditions: none.
-/
import Derived.Test.YtalnjdcidmkajaaPp
set_option linter.unusedVariables false
namespace Go.Proofs.Ytalnjdcidmkajaa
open Go Go.Gx
def low (a : List Int) : List Int := a.set 31 (bits .and .u8 (a.getD 31 0) 127)
theorem u8_nat {x : Int} (h : 0 ≤ x ∧ x < 256) : ∃ n : Nat, x = (n : Int) ∧ n < 2 ^ 8 := by
  obtain ⟨n, rfl⟩ := Int.eq_ofNat_of_zero_le h.1
  exact ⟨n, rfl, by omega⟩
theorem and127 {x : Int} (h : 0 ≤ x ∧ x < 256) : bits .and .u8 x 127 = x % 128 := by
  rw [show (127 : Int) = 2 ^ 7 - 1 by decide, bits_mask .u8 8 (by decide) wraps_u8 7 (by decide) x h.1 (by omega)]; rfl
theorem low_by {a : List Int} (h : By a 32) : By (low a) 32 := h.set 31 (by rw [and127 (getD_u8 a h.2 31)]; omega)
def isOdd (a : List Int) : Bool := (Int.fdiv (a.getD 31 0) (2 ^ 7)) == 1
/-- what the 32 bytes are taken for -/
def uY (a : List Int) : Int := B (low a) * B (low a) - 1
def vY (a : List Int) : Int := B (low a) * B (low a) * CD + 1
def xY (a : List Int) : Int := if isOdd a = true then 0 - ev2 (R1 (uY a) (vY a)) else ev2 (R1 (uY a) (vY a))
def okY (a : List Int) : Bool := decide (B (low a) < p) && (decide (vY a * (R1 (uY a) (vY a) * R1 (uY a) (vY a)) % p = uY a % p) && !(isOdd a && decide (ev2 (R1 (uY a) (vY a)) % p = 0 % p)))
def pY (a : List Int) : Q4 := ⟨xY a, B (low a), 1, xY a * B (low a)⟩
theorem of_pt (k : Nat) (hk : 101 ≤ k) {a : List Int} (ha : By a 32) : ∃ r, point_Of.f k a = some (r, okY a) ∧ r.length = 20 ∧ (okY a = true → Pt r (pY a)) := by
  have hl := low_by ha
  have hc := canonical_law k (by omega) hl
  unfold point_Of.f
  by_cases hp : B (low a) < p
  · rw [decide_eq_true hp] at hc
    obtain ⟨r4, e4, h4⟩ := of_spec k (by omega) hl
    obtain ⟨r6, e6, h6⟩ := times_spec h4 h4
    obtain ⟨r9, e9, h9⟩ := minus_spec h6 El.one
    obtain ⟨r11, e11, h11⟩ := times_spec h6 El.cd
    obtain ⟨r13, e13, h13⟩ := plus_spec k (by omega) h11 El.one
    have h9 : El r9 (uY a) := h9
    have h13 : El r13 (vY a) := h13
    obtain ⟨r14, e14, h14⟩ := ratio_spec k hk h9 h13
    have e17 := is_spec k (by omega) h14 El.zero
    have exY : xY a = if isOdd a = true then 0 - ev2 (R1 (uY a) (vY a)) else ev2 (R1 (uY a) (vY a)) := by unfold xY; rfl
    have eok : okY a = (decide (B (low a) < p) && (decide (vY a * (R1 (uY a) (vY a) * R1 (uY a) (vY a)) % p = uY a % p) && !(isOdd a && decide (ev2 (R1 (uY a) (vY a)) % p = 0 % p)))) := by unfold okY; rfl
    generalize R1 (uY a) (vY a) = R at *
    have ep1 : point_Of.p1 k a (r14, decide (vY a * (R * R) % p = uY a % p)) = some (!okY a) := by
      rw [eok]
      unfold point_Of.p1
      rw [decide_eq_true hp]
      cases h1 : decide (vY a * (R * R) % p = uY a % p)
      · rfl
      · cases h2 : isOdd a
        · exact sbf rfl (sbf h2 rfl)
        · refine sbf rfl (sbt h2 (sbd e17 ?_))
          cases decide (ev2 R % p = 0 % p) <;> rfl
    cases ho : okY a
    · rw [ho] at ep1
      refine ⟨List.replicate 20 (0 : Int), ?_, rfl, fun h => by cases h⟩
      exact sbd hc (sbf rfl (sbd e4 (sbd e6 (sbd (x := field_One.f) rfl (sbd e9 (sbd (x := point_curve.f) rfl (sbd e11 (sbd (x := field_One.f) rfl (sbd e13 (sbd e14 (sbd ep1 (sbt rfl rfl))))))))))))
    · rw [ho] at ep1
      obtain ⟨m22, e22, h22⟩ : ∃ m22, point_Of.p2 a (r14, decide (vY a * (R * R) % p = uY a % p)) = some m22 ∧ El m22 (xY a) := by
        obtain ⟨r20, e20, h20⟩ := minus_spec El.zero h14
        rw [exY]
        unfold point_Of.p2
        cases h2 : isOdd a
        · exact ⟨r14, sbf h2 rfl, h14⟩
        · exact ⟨r20, sbt h2 (sbd e20 rfl), h20⟩
      obtain ⟨r24, e24, h24⟩ := times_spec h22 h4
      have hpt : Pt (m22 ++ r4 ++ (List.replicate 5 (0 : Int)).set 0 1 ++ r24) (pY a) := ⟨_, _, _, _, rfl, h22, h4, El.one, h24⟩
      refine ⟨m22 ++ r4 ++ (List.replicate 5 (0 : Int)).set 0 1 ++ r24, ?_, hpt.len, fun _ => hpt⟩
      exact sbd hc (sbf rfl (sbd e4 (sbd e6 (sbd (x := field_One.f) rfl (sbd e9 (sbd (x := point_curve.f) rfl (sbd e11 (sbd (x := field_One.f) rfl (sbd e13 (sbd e14 (sbd ep1 (sbf rfl (sbd e22 (sbd (x := field_One.f) rfl (sbd e24 rfl)))))))))))))))
  · rw [decide_eq_false hp] at hc
    have ho : okY a = false := by unfold okY; rw [decide_eq_false hp]; rfl
    rw [ho]
    exact ⟨List.replicate 20 (0 : Int), sbd hc (sbt rfl rfl), rfl, fun h => by cases h⟩
theorem check_law (k : Nat) (hk : 101 ≤ k) {a : List Int} (ha : By a 32) : point_Check.f k a = some (if okY a = true then 0 else 2) := by
  obtain ⟨r, e, _, _⟩ := of_pt k hk ha
  unfold point_Check.f
  refine sbd e ?_
  cases okY a <;> rfl
theorem neg_pt {l : List Int} {P : Q4} (h : Pt l P) : ∃ r, point_Point_Minus.f l = some r ∧ Pt r ⟨0 - P.x, P.y, P.z, 0 - P.t⟩ := by
  obtain ⟨_, hx, hy, hz, ht⟩ := h.parts
  obtain ⟨r4, e4, h4⟩ := minus_spec El.zero hx
  obtain ⟨r5, e5, h5⟩ := minus_spec El.zero ht
  refine ⟨_, ?_, _, _, _, _, rfl, h4, hy, hz, h5⟩
  unfold point_Point_Minus.f
  exact sbd e4 (sbd e5 rfl)
theorem neg_law (k : Nat) (hk : 101 ≤ k) {a : List Int} (ha : By a 32) : point_Neg.f k a = some (if okY a = true then (enc ⟨0 - xY a, B (low a), 1, 0 - xY a * B (low a)⟩, 0) else (List.replicate 32 (0 : Int), 2)) := by
  obtain ⟨r, e, _, hp⟩ := of_pt k hk ha
  unfold point_Neg.f
  refine sbd e ?_
  cases ho : okY a
  · rfl
  · obtain ⟨m, em, hm⟩ := neg_pt (hp ho)
    exact sbf rfl (sbd em (sbd (bytes_pt k hk hm) rfl))
/-! ### The generator -/
def RIN : Nat := 19681161376707505956807079304988542015446066515923890162744021073123829784752
theorem R0_def (u v : Int) : R0 u v = u * (v * v * v) * (u * (v * v * v) * (v * v * v) * v) ^ P58 := by unfold R0; rfl
def r0N (u v : Nat) : Nat :=
  frc (v * v % PN) fun v2 => frc (v2 * v % PN) fun w => frc (u * w % PN) fun uw => frc (uw * w % PN) fun a => frc (a * v % PN) fun b => frc (pm PN 256 b P58) fun q => uw * q % PN
def r1N (u v : Nat) : Nat :=
  frc (r0N u v) fun r => frc (r * r % PN) fun rr => bif Nat.beq (v * rr % PN) u then r else r * RIN % PN
theorem r0N_spec {u v : Nat} {m n : Int} (hu : (u : Int) % p = m % p) (hv : (v : Int) % p = n % p) : ((r0N u v : Nat) : Int) % p = R0 m n % p := by
  rw [R0_def]
  unfold r0N
  simp only [frc_eq]
  have hw := nmul (nmul hv hv) hv
  have huw := nmul hu hw
  have hb := nmul (nmul huw hw) hv
  have hq := npow hb P58 (by decide)
  generalize (m * (n * n * n) * (n * n * n) * n) ^ P58 = z at hq ⊢
  exact nmul huw hq
theorem r1N_spec {u v : Nat} {m n : Int} (hu : (u : Int) % p = m % p) (hv : (v : Int) % p = n % p) (lu : u < PN) : ((r1N u v : Nat) : Int) % p = R1 m n % p := by
  have hr := r0N_spec hu hv
  have e1 : r1N u v = bif Nat.beq (v * (r0N u v * r0N u v % PN) % PN) u then r0N u v else r0N u v * RIN % PN := by unfold r1N; rw [frc_eq, frc_eq]
  have e2 : R1 m n = if n * (R0 m n * R0 m n) % p = m % p then R0 m n else R0 m n * RI := by unfold R1; rfl
  rw [e1, e2]
  clear e1 e2
  generalize r0N u v = r at hr ⊢
  generalize R0 m n = s at hr ⊢
  have hc := nmul hv (nmul hr hr)
  have hiff : Nat.beq (v * (r * r % PN) % PN) u = true ↔ n * (s * s) % p = m % p := by
    rw [← hc, ← hu, Nat.beq_eq]
    constructor
    · intro h; rw [h]
    · intro h
      rw [← PN_p, ← Int.natCast_emod, ← Int.natCast_emod, Nat.mod_mod] at h
      have h2 := Int.natCast_inj.1 h
      rw [h2, Nat.mod_eq_of_lt lu]
  rcases Bool.eq_false_or_eq_true (Nat.beq (v * (r * r % PN) % PN) u) with hbb | hbb
  · rw [if_pos (hiff.1 hbb), hbb, cond_true]; exact hr
  · rw [if_neg (fun h => by rw [hiff.2 h] at hbb; cases hbb), hbb, cond_false]
    exact nmul hr (rfl : ((RIN : Nat) : Int) % p = RI % p)
def genL : List Int := 88 :: List.replicate 31 102
theorem genL_by : By genL 32 := ⟨rfl, fun x hx => by
  rcases List.mem_cons.1 hx with rfl | hx
  · exact (has_u8 _).2 (by decide)
  · rw [List.eq_of_mem_replicate hx]; exact (has_u8 _).2 (by decide)⟩
theorem gen_low : low genL = genL := by decide
theorem gen_odd : isOdd genL = false := by decide
theorem gen_B : B genL = BY := by decide
def uG : Nat := (46316835694926478169428394003475163141307993866256225615783033603165251855960 * 46316835694926478169428394003475163141307993866256225615783033603165251855960 + (PN - 1)) % PN
def vG : Nat := (46316835694926478169428394003475163141307993866256225615783033603165251855960 * 46316835694926478169428394003475163141307993866256225615783033603165251855960 * 37095705934669439343138083508754565189542113879843219016388785533085940283555 + 1) % PN
theorem uG_spec : ((uG : Nat) : Int) % p = uY genL % p := by
  unfold uG uY; rw [gen_low, gen_B, nm]; decide
theorem vG_spec : ((vG : Nat) : Int) % p = vY genL % p := by
  unfold vG vY; rw [gen_low, gen_B, nm]; decide
theorem rG : (r1N uG vG % PN = 15112221349535400772501151409588531511454012693041857206046113283949847762202 ∨ r1N uG vG % PN = 42783823269122696939284341094755422415180979639778424813682678720006717057747) ∧ vG * (r1N uG vG * r1N uG vG % PN) % PN = uG % PN := by decide +kernel
theorem ev2_cong {x y : Int} (h : x % p = y % p) : ev2 x % p = ev2 y % p := by
  unfold ev2
  rw [h]
  split
  · exact cg_sub rfl h
  · exact h
theorem gen_x : ev2 (R1 (uY genL) (vY genL)) % p = BX % p := by
  have h := r1N_spec uG_spec vG_spec (nlt _)
  rw [← nm] at h
  rw [ev2_cong h.symm]
  rcases rG.1 with e | e <;> rw [e] <;> decide
theorem gen_ok : okY genL = true := by
  have h := r1N_spec uG_spec vG_spec (nlt _)
  have h2 := nmul vG_spec (nmul h h)
  rw [rG.2, nm, uG_spec] at h2
  unfold okY
  rw [gen_low, gen_B, gen_odd, decide_eq_true (show BY < p by decide), decide_eq_true h2.symm]; rfl
theorem gen_bytes : enc B4 = genL := by
  rw [enc_of (x := 15112221349535400772501151409588531511454012693041857206046113283949847762202) (y := 46316835694926478169428394003475163141307993866256225615783033603165251855960) (z := 1) rfl rfl rfl (X := 15112221349535400772501151409588531511454012693041857206046113283949847762202) (Y := 46316835694926478169428394003475163141307993866256225615783033603165251855960) (by decide +kernel) (by decide +kernel)]
  decide
theorem awake_law (k : Nat) (hk : 101 ≤ k) : postilionlaw06_awake.f k = some true := by
  have hg := generator_law k hk
  rw [gen_bytes] at hg
  have hc := check_law k hk genL_by
  rw [gen_ok] at hc
  unfold postilionlaw06_awake.f postilionlaw06_awake.p1
  exact sbd hg (sbd (sbt rfl (sbt rfl (sbd hc rfl))) rfl)
def negL : List Int := (88 :: List.replicate 30 102) ++ [230]
theorem gen_xY : xY genL % p = BX % p := by
  have h := gen_x
  have e : xY genL = ev2 (R1 (uY genL) (vY genL)) := by unfold xY; rw [gen_odd, if_neg (by decide)]
  rw [e, h]
theorem gen_neg (k : Nat) (hk : 101 ≤ k) : point_Neg.f k genL = some (negL, 0) := by
  rw [neg_law k hk genL_by, gen_ok, if_pos rfl, gen_low, gen_B]
  have hx0 := gen_xY
  generalize xY genL = X at hx0 ⊢
  have hx : ((42783823269122696939284341094755422415180979639778424813682678720006717057747 : Nat) : Int) % p = (0 - X) % p := by
    rw [cg_sub (rfl : (0 : Int) % p = 0 % p) hx0]; decide
  have he := enc_of (q := ⟨0 - X, BY, 1, 0 - X * BY⟩) (x := 42783823269122696939284341094755422415180979639778424813682678720006717057747) (y := 46316835694926478169428394003475163141307993866256225615783033603165251855960) (z := 1) hx rfl rfl
    (X := 42783823269122696939284341094755422415180979639778424813682678720006717057747) (Y := 46316835694926478169428394003475163141307993866256225615783033603165251855960) (by decide +kernel) (by decide +kernel)
  rw [he]
  decide
end Go.Proofs.Ytalnjdcidmkajaa
namespace Go.Proofs.Ytalnjdcidmkajaa.pointOrder
open Go Go.Gx
def ordL : List Int := [237, 211, 245, 92, 26, 99, 18, 88, 214, 156, 247, 162, 222, 249, 222, 20, 0, 0, 0, 0, 0, 0, 0, 0, 0, 0, 0, 0, 0, 0, 0, 16]
def bo (c : Nat) (i : Nat) : Nat := if i = 0 then c else ([237, 211, 245, 92, 26, 99, 18, 88, 214, 156, 247, 162, 222, 249, 222, 20, 0, 0, 0, 0, 0, 0, 0, 0, 0, 0, 0, 0, 0, 0, 0, 16] : List Nat).getD i 0
theorem bo_lt (c : Nat) (hc : c < 256) (i : Nat) : bo c i < 256 := by
  unfold bo
  split
  · exact hc
  · have : ∀ (l : List Nat), (∀ x ∈ l, x < 256) → ∀ i, l.getD i 0 < 256 := fun l h i => by
      by_cases hi : i < l.length
      · have : l.getD i 0 = l[i] := by rw [List.getD_eq_getElem?_getD, List.getElem?_eq_getElem hi]; rfl
        rw [this]; exact h _ (List.getElem_mem hi)
      · rw [List.getD_eq_getElem?_getD, List.getElem?_eq_none (by omega)]; decide
    exact this _ (by decide) i
theorem ord_by : By ordL 32 := ⟨rfl, by
  have : ordL.all (fun x => decide (0 ≤ x ∧ x < 256)) = true := by decide
  intro x hx
  exact (has_u8 x).2 (of_decide_eq_true (List.all_eq_true.1 this x hx))⟩
theorem pure_law : ∃ k, postilionlaw06_PointOrder.f k = some true := by
  refine ⟨1000, ?_⟩
  generalize hk' : 1000 = k
  have hk : 101 ≤ k := by omega
  have hg := generator_law k hk
  rw [gen_bytes] at hg
  have e1 := base_of k hk ord_by (bo 237) (by decide) (X := 0) (Y := 1) (by decide +kernel) (bo_lt 237 (by decide))
  have e2 := base_of k hk (ord_by.set 0 (v := 236) (by decide)) (bo 236) (by decide) (X := 42783823269122696939284341094755422415180979639778424813682678720006717057747) (Y := 46316835694926478169428394003475163141307993866256225615783033603165251855960) (by decide +kernel) (bo_lt 236 (by decide))
  have e3 := base_of k hk ((By.zero 32).set 0 (v := 1) (by decide)) (fun i => if i = 0 then 1 else 0) (by decide) (X := 15112221349535400772501151409588531511454012693041857206046113283949847762202) (Y := 46316835694926478169428394003475163141307993866256225615783033603165251855960) (by decide +kernel) (fun i => by show (if i = 0 then 1 else 0) < 256; split <;> decide)
  unfold postilionlaw06_PointOrder.f
  refine lt_rwl (y := ordL) rfl (sbd hg (sbd (gen_neg k hk) (lt_rw (y := 0) rfl (sbd (a := true) ?_ rfl))))
  unfold postilionlaw06_PointOrder.p1
  refine sbd (awake_law k hk) (sbt rfl (sbd e1 (sbd (x := point_Zero.f) rfl (sbt ?_ (sbt rfl (sbd e2 (sbt ?_ (sbd e3 (sbd hg (som ?_))))))))))
  · decide
  · decide
  · decide
end Go.Proofs.Ytalnjdcidmkajaa.pointOrder

