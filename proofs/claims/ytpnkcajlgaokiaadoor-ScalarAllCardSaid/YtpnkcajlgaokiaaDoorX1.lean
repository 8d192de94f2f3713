/-
  The walks: each function of the program form returns what its plain definition computes. Printed by my own program.
  Conditions: none; every function is taken as the given program's form has it.
-/
import Derived.Test.YtpnkcajlgaokiaaDoorProg
import Derived.Test.YtpnkcajlgaokiaaDoorGp
namespace Go.Proofs.YtpnkcajlgaokiaaDoor
open Go Go.Gx Go.RowKit
set_option linter.unusedVariables false
set_option maxRecDepth 100000
theorem ext21 : Tryd.prog.funcs[21]? = some Tryd.f21 ∧ (Tryd.f21.name == "runtime.NumGoroutine") = false ∧ Tryd.f21.body.isNone = true ∧ Extern.findNext Tryd.f21 = none ∧ Extern.find Tryd.f21 = some add64Entry :=
  ⟨Tryd.func21, by kernel_rfl, by kernel_rfl, by kernel_rfl, by kernel_rfl⟩
theorem ext33 : Tryd.prog.funcs[33]? = some Tryd.f33 ∧ (Tryd.f33.name == "runtime.NumGoroutine") = false ∧ Tryd.f33.body.isNone = true ∧ Extern.findNext Tryd.f33 = none ∧ Extern.find Tryd.f33 = some sub64Entry :=
  ⟨Tryd.func33, by kernel_rfl, by kernel_rfl, by kernel_rfl, by kernel_rfl⟩
/-! 20 math/bits.Mul64 -/
theorem math_bits_Mul64_ok (a0 : Int) (a1 : Int) (w0 : World) (hp : Hp w0 [] w0 [] [⟨0, 0, ints .u64 [6346243789798364141, 1503914060200516822, 0, 1152921504606846976]⟩]) {r : Int × Int} (h : math_bits_Mul64.f a0 a1 = some r) :
    Calls Tryd.prog 20 [.int .u64 a0, .int .u64 a1].toArray w0 fun x w' => ∃ v, x = .returned v ∧ v = .tuple #[.int .u64 r.1, .int .u64 r.2] ∧ Hp w0 [] w' [] [⟨0, 0, ints .u64 [6346243789798364141, 1503914060200516822, 0, 1152921504606846976]⟩] := by
  refine calls_in Tryd.func20 rfl (Nat.le_of_ble_eq_true (by kernel_rfl)) (by kernel_rfl) ?_
  intro e0 qe0
  have s0_e0 : e0 0 = .int .u64 a0 := congrFun qe0 0
  have s1_e0 : e0 1 = .int .u64 a1 := congrFun qe0 1
  clear qe0
  unfold math_bits_Mul64.f at h
  refine wseq rfl ?_
  refine wregion (.tp 0 (.tp 1 (.done))) [] rfl (by kernel_rfl) (by kernel_rfl) ?_
  refine k_assign (v := .int .u64 0) rfl rfl ?_
  refine k_assign (v := .int .u64 0) rfl rfl ?_
  refine k_end ?_; intro e1 qe1
  have s0_e1 : e1 0 = .int .u64 a0 := (congrFun qe1 0).trans s0_e0
  have s1_e1 : e1 1 = .int .u64 a1 := (congrFun qe1 1).trans s1_e0
  clear qe1
  refine wseq rfl ?_
  refine wregion (.tp 0 (.tp 1 (.tp 2 (.done)))) [] rfl (by kernel_rfl) (by kernel_rfl) ?_
  refine k_move (v := .int .u64 a0) rfl s0_e1 ?_
  refine k_bin (X := .int .u64 a0) (Y := .int .u64 4294967295) rfl rfl rfl rfl ?_
  refine k_assign (v := .int .u64 (bits .and .u64 a0 4294967295)) rfl rfl ?_
  refine k_end ?_; intro e2 qe2
  have s0_e2 : e2 0 = .int .u64 a0 := (congrFun qe2 0).trans s0_e1
  have s1_e2 : e2 1 = .int .u64 a1 := (congrFun qe2 1).trans s1_e1
  obtain ⟨x1, qx1, h⟩ := lt_e h
  have s6_e2 : e2 6 = .int .u64 x1 := (congrFun qe2 6).trans (congrArg (Value.int .u64) qx1.symm)
  clear qe2
  refine wseq rfl ?_
  refine wregion (.tp 0 (.tp 1 (.tp 2 (.done)))) [] rfl (by kernel_rfl) (by kernel_rfl) ?_
  refine k_move (v := .int .u64 a0) rfl s0_e2 ?_
  refine k_shr (a := a0) (b := 32) rfl rfl rfl (by decide) ?_
  refine k_assign (v := .int .u64 (Int.fdiv a0 (2 ^ 32))) rfl rfl ?_
  refine k_end ?_; intro e3 qe3
  have s0_e3 : e3 0 = .int .u64 a0 := (congrFun qe3 0).trans s0_e2
  have s1_e3 : e3 1 = .int .u64 a1 := (congrFun qe3 1).trans s1_e2
  have s6_e3 : e3 6 = .int .u64 x1 := (congrFun qe3 6).trans s6_e2
  obtain ⟨x2, qx2, h⟩ := lt_e h
  have s7_e3 : e3 7 = .int .u64 x2 := (congrFun qe3 7).trans (congrArg (Value.int .u64) qx2.symm)
  clear qe3
  refine wseq rfl ?_
  refine wregion (.tp 0 (.tp 1 (.tp 2 (.done)))) [] rfl (by kernel_rfl) (by kernel_rfl) ?_
  refine k_move (v := .int .u64 a1) rfl s1_e3 ?_
  refine k_bin (X := .int .u64 a1) (Y := .int .u64 4294967295) rfl rfl rfl rfl ?_
  refine k_assign (v := .int .u64 (bits .and .u64 a1 4294967295)) rfl rfl ?_
  refine k_end ?_; intro e4 qe4
  have s0_e4 : e4 0 = .int .u64 a0 := (congrFun qe4 0).trans s0_e3
  have s1_e4 : e4 1 = .int .u64 a1 := (congrFun qe4 1).trans s1_e3
  have s6_e4 : e4 6 = .int .u64 x1 := (congrFun qe4 6).trans s6_e3
  have s7_e4 : e4 7 = .int .u64 x2 := (congrFun qe4 7).trans s7_e3
  obtain ⟨x3, qx3, h⟩ := lt_e h
  have s8_e4 : e4 8 = .int .u64 x3 := (congrFun qe4 8).trans (congrArg (Value.int .u64) qx3.symm)
  clear qe4
  refine wseq rfl ?_
  refine wregion (.tp 0 (.tp 1 (.tp 2 (.done)))) [] rfl (by kernel_rfl) (by kernel_rfl) ?_
  refine k_move (v := .int .u64 a1) rfl s1_e4 ?_
  refine k_shr (a := a1) (b := 32) rfl rfl rfl (by decide) ?_
  refine k_assign (v := .int .u64 (Int.fdiv a1 (2 ^ 32))) rfl rfl ?_
  refine k_end ?_; intro e5 qe5
  have s0_e5 : e5 0 = .int .u64 a0 := (congrFun qe5 0).trans s0_e4
  have s1_e5 : e5 1 = .int .u64 a1 := (congrFun qe5 1).trans s1_e4
  have s6_e5 : e5 6 = .int .u64 x1 := (congrFun qe5 6).trans s6_e4
  have s7_e5 : e5 7 = .int .u64 x2 := (congrFun qe5 7).trans s7_e4
  have s8_e5 : e5 8 = .int .u64 x3 := (congrFun qe5 8).trans s8_e4
  obtain ⟨x4, qx4, h⟩ := lt_e h
  have s9_e5 : e5 9 = .int .u64 x4 := (congrFun qe5 9).trans (congrArg (Value.int .u64) qx4.symm)
  clear qe5
  refine wseq rfl ?_
  refine wregion (.tp 0 (.tp 1 (.tp 2 (.tp 3 (.done))))) [] rfl (by kernel_rfl) (by kernel_rfl) ?_
  refine k_move (v := .int .u64 x1) rfl s6_e5 ?_
  refine k_move (v := .int .u64 x3) rfl s8_e5 ?_
  refine k_bin (X := .int .u64 x1) (Y := .int .u64 x3) rfl rfl rfl rfl ?_
  refine k_assign (v := .int .u64 (IntKind.u64.wrap (x1 * x3))) rfl rfl ?_
  refine k_end ?_; intro e6 qe6
  have s0_e6 : e6 0 = .int .u64 a0 := (congrFun qe6 0).trans s0_e5
  have s1_e6 : e6 1 = .int .u64 a1 := (congrFun qe6 1).trans s1_e5
  have s6_e6 : e6 6 = .int .u64 x1 := (congrFun qe6 6).trans s6_e5
  have s7_e6 : e6 7 = .int .u64 x2 := (congrFun qe6 7).trans s7_e5
  have s8_e6 : e6 8 = .int .u64 x3 := (congrFun qe6 8).trans s8_e5
  have s9_e6 : e6 9 = .int .u64 x4 := (congrFun qe6 9).trans s9_e5
  obtain ⟨x5, qx5, h⟩ := lt_e h
  have s10_e6 : e6 10 = .int .u64 x5 := (congrFun qe6 10).trans (congrArg (Value.int .u64) qx5.symm)
  clear qe6
  refine wseq rfl ?_
  refine wregion (.tp 0 (.tp 1 (.tp 2 (.tp 3 (.tp 4 (.tp 5 (.tp 6 (.done)))))))) [] rfl (by kernel_rfl) (by kernel_rfl) ?_
  refine k_move (v := .int .u64 x2) rfl s7_e6 ?_
  refine k_move (v := .int .u64 x3) rfl s8_e6 ?_
  refine k_bin (X := .int .u64 x2) (Y := .int .u64 x3) rfl rfl rfl rfl ?_
  refine k_move (v := .int .u64 x5) rfl s10_e6 ?_
  refine k_shr (a := x5) (b := 32) rfl rfl rfl (by decide) ?_
  refine k_bin (X := .int .u64 (IntKind.u64.wrap (x2 * x3))) (Y := .int .u64 (Int.fdiv x5 (2 ^ 32))) rfl rfl rfl rfl ?_
  refine k_assign (v := .int .u64 (IntKind.u64.wrap ((IntKind.u64.wrap (x2 * x3)) + (Int.fdiv x5 (2 ^ 32))))) rfl rfl ?_
  refine k_end ?_; intro e7 qe7
  have s0_e7 : e7 0 = .int .u64 a0 := (congrFun qe7 0).trans s0_e6
  have s1_e7 : e7 1 = .int .u64 a1 := (congrFun qe7 1).trans s1_e6
  have s6_e7 : e7 6 = .int .u64 x1 := (congrFun qe7 6).trans s6_e6
  have s7_e7 : e7 7 = .int .u64 x2 := (congrFun qe7 7).trans s7_e6
  have s9_e7 : e7 9 = .int .u64 x4 := (congrFun qe7 9).trans s9_e6
  obtain ⟨x6, qx6, h⟩ := lt_e h
  have s11_e7 : e7 11 = .int .u64 x6 := (congrFun qe7 11).trans (congrArg (Value.int .u64) qx6.symm)
  clear qe7
  refine wseq rfl ?_
  refine wregion (.tp 0 (.tp 1 (.tp 2 (.done)))) [] rfl (by kernel_rfl) (by kernel_rfl) ?_
  refine k_move (v := .int .u64 x6) rfl s11_e7 ?_
  refine k_bin (X := .int .u64 x6) (Y := .int .u64 4294967295) rfl rfl rfl rfl ?_
  refine k_assign (v := .int .u64 (bits .and .u64 x6 4294967295)) rfl rfl ?_
  refine k_end ?_; intro e8 qe8
  have s0_e8 : e8 0 = .int .u64 a0 := (congrFun qe8 0).trans s0_e7
  have s1_e8 : e8 1 = .int .u64 a1 := (congrFun qe8 1).trans s1_e7
  have s6_e8 : e8 6 = .int .u64 x1 := (congrFun qe8 6).trans s6_e7
  have s7_e8 : e8 7 = .int .u64 x2 := (congrFun qe8 7).trans s7_e7
  have s9_e8 : e8 9 = .int .u64 x4 := (congrFun qe8 9).trans s9_e7
  have s11_e8 : e8 11 = .int .u64 x6 := (congrFun qe8 11).trans s11_e7
  obtain ⟨x7, qx7, h⟩ := lt_e h
  have s12_e8 : e8 12 = .int .u64 x7 := (congrFun qe8 12).trans (congrArg (Value.int .u64) qx7.symm)
  clear qe8
  refine wseq rfl ?_
  refine wregion (.tp 0 (.tp 1 (.tp 2 (.done)))) [] rfl (by kernel_rfl) (by kernel_rfl) ?_
  refine k_move (v := .int .u64 x6) rfl s11_e8 ?_
  refine k_shr (a := x6) (b := 32) rfl rfl rfl (by decide) ?_
  refine k_assign (v := .int .u64 (Int.fdiv x6 (2 ^ 32))) rfl rfl ?_
  refine k_end ?_; intro e9 qe9
  have s0_e9 : e9 0 = .int .u64 a0 := (congrFun qe9 0).trans s0_e8
  have s1_e9 : e9 1 = .int .u64 a1 := (congrFun qe9 1).trans s1_e8
  have s6_e9 : e9 6 = .int .u64 x1 := (congrFun qe9 6).trans s6_e8
  have s7_e9 : e9 7 = .int .u64 x2 := (congrFun qe9 7).trans s7_e8
  have s9_e9 : e9 9 = .int .u64 x4 := (congrFun qe9 9).trans s9_e8
  have s12_e9 : e9 12 = .int .u64 x7 := (congrFun qe9 12).trans s12_e8
  obtain ⟨x8, qx8, h⟩ := lt_e h
  have s13_e9 : e9 13 = .int .u64 x8 := (congrFun qe9 13).trans (congrArg (Value.int .u64) qx8.symm)
  clear qe9
  refine wseq rfl ?_
  refine wregion (.tp 0 (.tp 1 (.tp 2 (.tp 3 (.tp 4 (.tp 5 (.done))))))) [] rfl (by kernel_rfl) (by kernel_rfl) ?_
  refine k_move (v := .int .u64 x7) rfl s12_e9 ?_
  refine k_move (v := .int .u64 x1) rfl s6_e9 ?_
  refine k_move (v := .int .u64 x4) rfl s9_e9 ?_
  refine k_bin (X := .int .u64 x1) (Y := .int .u64 x4) rfl rfl rfl rfl ?_
  refine k_bin (X := .int .u64 x7) (Y := .int .u64 (IntKind.u64.wrap (x1 * x4))) rfl rfl rfl rfl ?_
  refine k_assign (v := .int .u64 (IntKind.u64.wrap (x7 + (IntKind.u64.wrap (x1 * x4))))) rfl rfl ?_
  refine k_end ?_; intro e10 qe10
  have s0_e10 : e10 0 = .int .u64 a0 := (congrFun qe10 0).trans s0_e9
  have s1_e10 : e10 1 = .int .u64 a1 := (congrFun qe10 1).trans s1_e9
  have s7_e10 : e10 7 = .int .u64 x2 := (congrFun qe10 7).trans s7_e9
  have s9_e10 : e10 9 = .int .u64 x4 := (congrFun qe10 9).trans s9_e9
  obtain ⟨x9, qx9, h⟩ := lt_e h
  have s12_e10 : e10 12 = .int .u64 x9 := (congrFun qe10 12).trans (congrArg (Value.int .u64) qx9.symm)
  have s13_e10 : e10 13 = .int .u64 x8 := (congrFun qe10 13).trans s13_e9
  clear qe10
  refine wseq rfl ?_
  refine wregion (.tp 0 (.tp 1 (.tp 2 (.tp 3 (.tp 4 (.tp 5 (.tp 6 (.tp 7 (.tp 8 (.done)))))))))) [] rfl (by kernel_rfl) (by kernel_rfl) ?_
  refine k_move (v := .int .u64 x2) rfl s7_e10 ?_
  refine k_move (v := .int .u64 x4) rfl s9_e10 ?_
  refine k_bin (X := .int .u64 x2) (Y := .int .u64 x4) rfl rfl rfl rfl ?_
  refine k_move (v := .int .u64 x8) rfl s13_e10 ?_
  refine k_bin (X := .int .u64 (IntKind.u64.wrap (x2 * x4))) (Y := .int .u64 x8) rfl rfl rfl rfl ?_
  refine k_move (v := .int .u64 x9) rfl s12_e10 ?_
  refine k_shr (a := x9) (b := 32) rfl rfl rfl (by decide) ?_
  refine k_bin (X := .int .u64 (IntKind.u64.wrap ((IntKind.u64.wrap (x2 * x4)) + x8))) (Y := .int .u64 (Int.fdiv x9 (2 ^ 32))) rfl rfl rfl rfl ?_
  refine k_assign (v := .int .u64 (IntKind.u64.wrap ((IntKind.u64.wrap ((IntKind.u64.wrap (x2 * x4)) + x8)) + (Int.fdiv x9 (2 ^ 32))))) rfl rfl ?_
  refine k_end ?_; intro e11 qe11
  have s0_e11 : e11 0 = .int .u64 a0 := (congrFun qe11 0).trans s0_e10
  have s1_e11 : e11 1 = .int .u64 a1 := (congrFun qe11 1).trans s1_e10
  obtain ⟨x10, qx10, h⟩ := lt_e h
  have s4_e11 : e11 4 = .int .u64 x10 := (congrFun qe11 4).trans (congrArg (Value.int .u64) qx10.symm)
  clear qe11
  refine wseq rfl ?_
  refine wregion (.tp 0 (.tp 1 (.tp 2 (.tp 3 (.done))))) [] rfl (by kernel_rfl) (by kernel_rfl) ?_
  refine k_move (v := .int .u64 a0) rfl s0_e11 ?_
  refine k_move (v := .int .u64 a1) rfl s1_e11 ?_
  refine k_bin (X := .int .u64 a0) (Y := .int .u64 a1) rfl rfl rfl rfl ?_
  refine k_assign (v := .int .u64 (IntKind.u64.wrap (a0 * a1))) rfl rfl ?_
  refine k_end ?_; intro e12 qe12
  have s4_e12 : e12 4 = .int .u64 x10 := (congrFun qe12 4).trans s4_e11
  obtain ⟨x11, qx11, h⟩ := lt_e h
  have s5_e12 : e12 5 = .int .u64 x11 := (congrFun qe12 5).trans (congrArg (Value.int .u64) qx11.symm)
  clear qe12
  refine wret rfl ?_
  have hr : r = (x10, x11) := (Option.some.inj h).symm
  show RetP _ _ _ _ _
  rw [hr]
  exact ret_i [.int .u64 x10, .int .u64 x11] (res_tmp s4_e12 (res_tmp s5_e12 res_nil)) ⟨rfl, hp.none⟩
/-! 22 (postilion/scalar.number).add -/
theorem scalar_number_add.p1_ok {w0 : World} {Ws : List Wr} {Q : Exit → Env → World → Prop} (g1 g2 g3 : Nat) (a1 : List Int) (l_a1 : a1.length = 4) {r : List Int} (hQ0 : ∀ (e' : Env) (w' : World) (z0 : List Int), z0.length = 4 → e' 2 = .pointer (some ⟨g1, 0, none⟩) → e' 4 = .pointer (some ⟨g3, 0, none⟩) → Hp w0 Ws w' [⟨g1, 0, ints .u64 z0⟩, ⟨g2, 0, ints .u64 a1⟩, ⟨g3, 0, ints .u64 (List.replicate 4 (0 : Int))⟩] [⟨0, 0, ints .u64 [6346243789798364141, 1503914060200516822, 0, 1152921504606846976]⟩] → r = (z0) → Q (.exit 0) e' w') : ∀ (k : Nat), ∀ (y4 : List Int) (y5 : Int) (y6 : Int) (e : Env) (w : World) (ly4 : y4.length = 4) (s2_e : e 2 = .pointer (some ⟨g1, 0, none⟩)) (s3_e : e 3 = .pointer (some ⟨g2, 0, none⟩)) (s4_e : e 4 = .pointer (some ⟨g3, 0, none⟩)) (s5_e : e 5 = .int .u64 y5) (s7_e : e 7 = .int .i64 y6) (hp : Hp w0 Ws w [⟨g1, 0, ints .u64 y4⟩, ⟨g2, 0, ints .u64 a1⟩, ⟨g3, 0, ints .u64 (List.replicate 4 (0 : Int))⟩] [⟨0, 0, ints .u64 [6346243789798364141, 1503914060200516822, 0, 1152921504606846976]⟩]) (h : scalar_number_add.p1 k a1 y4 y5 y6 = some r), Lp Tryd.prog Tryd.f22.ntmps (at_ (fbody Tryd.f22) [1, 1, 0, 1, 0, 0]) Q k e w := by
  intro k
  induction k with
  | zero => intro y4 y5 y6 e w ly4 s2_e s3_e s4_e s5_e s7_e hp h; cases h
  | succ k ih =>
    intro y4 y5 y6 e w ly4 s2_e s3_e s4_e s5_e s7_e hp h
    unfold scalar_number_add.p1 at h
    show Wp _ _ _ _ _ _
    refine wseq rfl ?_
    refine wregion (.tp 0 (.done)) [] rfl (by kernel_rfl) (by kernel_rfl) ?_
    refine k_bin (X := .int .i64 y6) (Y := .int .i64 4) rfl s7_e rfl rfl ?_
    refine k_end ?_; intro e16 qe16
    have s2_e16 : e16 2 = .pointer (some ⟨g1, 0, none⟩) := (congrFun qe16 2).trans s2_e
    have s3_e16 : e16 3 = .pointer (some ⟨g2, 0, none⟩) := (congrFun qe16 3).trans s3_e
    have s4_e16 : e16 4 = .pointer (some ⟨g3, 0, none⟩) := (congrFun qe16 4).trans s4_e
    have s5_e16 : e16 5 = .int .u64 y5 := (congrFun qe16 5).trans s5_e
    have s7_e16 : e16 7 = .int .i64 y6 := (congrFun qe16 7).trans s7_e
    have s8_e16 : e16 8 = .bool (decide (y6 < 4)) := congrFun qe16 8
    clear qe16
    refine wseq rfl ?_
    refine wcond (t := (decide (y6 < 4))) rfl (by decide) s8_e16 (fun hb => ?_) (fun hb => ?_)
    · replace h := br_t hb h
      refine wskip rfl ?_
      refine wseq rfl ?_
      refine wblock rfl ?_
      refine wseq rfl ?_
      refine wregion (.tp 0 (.tp 1 (.done))) [] rfl (by kernel_rfl) (by kernel_rfl) ?_
      refine k_move (v := .int .i64 y6) rfl s7_e16 ?_
      refine k_assign (v := .int .i64 y6) rfl rfl ?_
      refine k_end ?_; intro e17 qe17
      have s2_e17 : e17 2 = .pointer (some ⟨g1, 0, none⟩) := (congrFun qe17 2).trans s2_e16
      have s3_e17 : e17 3 = .pointer (some ⟨g2, 0, none⟩) := (congrFun qe17 3).trans s3_e16
      have s4_e17 : e17 4 = .pointer (some ⟨g3, 0, none⟩) := (congrFun qe17 4).trans s4_e16
      have s5_e17 : e17 5 = .int .u64 y5 := (congrFun qe17 5).trans s5_e16
      have s6_e17 : e17 6 = .int .i64 y6 := congrFun qe17 6
      have s7_e17 : e17 7 = .int .i64 y6 := (congrFun qe17 7).trans s7_e16
      clear qe17
      refine wregion_d (.tp 0 (.tp 1 (.tp 2 (.tk 3 (.tp 4 (.tp 5 (.tk 6 (.tp 7 (.tp 8 (.tp 9 (.tp 10 (.tp 11 (.tp 12 (.ef 13 (.tp 14 (.done)))))))))))))))) [13] rfl (by kernel_rfl) (by kernel_rfl) (Nat.le_of_ble_eq_true (by kernel_rfl)) (by kernel_rfl) ?_
      have hp := hp.drew
      refine k_move (v := .int .i64 y6) rfl s6_e17 ?_
      refine k_move (v := .int .i64 y6) rfl s6_e17 ?_
      obtain ⟨c7, h⟩ := chk_e h
      refine k_indexA (n := 4) (s := 1) (j := y6) rfl Tryd.underlying35 (by kernel_rfl) s2_e17 rfl c7 ?_
      refine k_load (j := (y6 : Int).toNat) (v := .int .u64 (y4.getD (y6 : Int).toNat 0)) rfl (by kernel_rfl) rfl (hp.get (j := 0) rfl) rfl (show 0 + (y6 : Int).toNat * 1 = 0 + (y6 : Int).toNat by omega) (ints_get (idx_lt c7 ly4)) ?_
      refine k_move (v := .int .i64 y6) rfl s6_e17 ?_
      refine k_indexA (n := 4) (s := 1) (j := y6) rfl Tryd.underlying35 (by kernel_rfl) s3_e17 rfl c7 ?_
      refine k_load (j := (y6 : Int).toNat) (v := .int .u64 (a1.getD (y6 : Int).toNat 0)) rfl (by kernel_rfl) rfl (hp.get (j := 1) rfl) rfl (show 0 + (y6 : Int).toNat * 1 = 0 + (y6 : Int).toNat by omega) (ints_get (idx_lt c7 l_a1)) ?_
      refine k_move (v := .int .u64 y5) rfl s5_e17 ?_
      obtain ⟨c8, h⟩ := chk_e h
      refine k_ext [.int .u64 (y4.getD (y6 : Int).toNat 0), .int .u64 (a1.getD (y6 : Int).toNat 0), .int .u64 y5] rfl ext21 (args3 rfl rfl rfl) (fun w' => run_add64 (y4.getD (y6 : Int).toNat 0) (a1.getD (y6 : Int).toNat 0) y5 c8.1 c8.2.1 c8.2.2.1 c8.2.2.2 w') ?_
      refine k_move (v := .tuple #[.int .u64 (((y4.getD (y6 : Int).toNat 0) + (a1.getD (y6 : Int).toNat 0) + y5) % 18446744073709551616), .int .u64 (((y4.getD (y6 : Int).toNat 0) + (a1.getD (y6 : Int).toNat 0) + y5) / 18446744073709551616)]) rfl rfl ?_
      refine k_extract (v := .int .u64 (((y4.getD (y6 : Int).toNat 0) + (a1.getD (y6 : Int).toNat 0) + y5) % 18446744073709551616)) rfl rfl rfl ?_
      refine k_extract (v := .int .u64 (((y4.getD (y6 : Int).toNat 0) + (a1.getD (y6 : Int).toNat 0) + y5) / 18446744073709551616)) rfl rfl rfl ?_
      refine k_indexA (n := 4) (s := 1) (j := y6) rfl Tryd.underlying35 (by kernel_rfl) s2_e17 rfl c7 ?_
      refine k_store (v := .int .u64 (((y4.getD (y6 : Int).toNat 0) + (a1.getD (y6 : Int).toNat 0) + y5) % 18446744073709551616)) 0 (y6 : Int).toNat (r := ⟨g1, 0, ints .u64 y4⟩) rfl (by kernel_rfl) rfl rfl rfl hp rfl rfl (show 0 + (y6 : Int).toNat * 1 = 0 + (y6 : Int).toNat by omega) (Nat.lt_of_lt_of_eq (idx_lt c7 ly4) (ints_length _ _).symm) (by decide) ?_; intro w hp; rw [ints_set] at hp
      refine k_assign (v := .int .u64 (((y4.getD (y6 : Int).toNat 0) + (a1.getD (y6 : Int).toNat 0) + y5) / 18446744073709551616)) rfl rfl ?_
      refine k_end ?_; intro e18 qe18
      have s2_e18 : e18 2 = .pointer (some ⟨g1, 0, none⟩) := (congrFun qe18 2).trans s2_e17
      have s3_e18 : e18 3 = .pointer (some ⟨g2, 0, none⟩) := (congrFun qe18 3).trans s3_e17
      have s4_e18 : e18 4 = .pointer (some ⟨g3, 0, none⟩) := (congrFun qe18 4).trans s4_e17
      obtain ⟨x9, qx9, h⟩ := lt_e h
      have s5_e18 : e18 5 = .int .u64 x9 := (congrFun qe18 5).trans (congrArg (Value.int .u64) qx9.symm)
      have s7_e18 : e18 7 = .int .i64 y6 := (congrFun qe18 7).trans s7_e17
      clear qe18
      refine wregion (.tp 0 (.tp 1 (.done))) [] rfl (by kernel_rfl) (by kernel_rfl) ?_
      refine k_bin (X := .int .i64 y6) (Y := .int .i64 1) rfl s7_e18 rfl rfl ?_
      refine k_move (v := .int .i64 (IntKind.i64.wrap (y6 + 1))) rfl rfl ?_
      refine k_end ?_; intro e19 qe19
      have s2_e19 : e19 2 = .pointer (some ⟨g1, 0, none⟩) := (congrFun qe19 2).trans s2_e18
      have s3_e19 : e19 3 = .pointer (some ⟨g2, 0, none⟩) := (congrFun qe19 3).trans s3_e18
      have s4_e19 : e19 4 = .pointer (some ⟨g3, 0, none⟩) := (congrFun qe19 4).trans s4_e18
      have s5_e19 : e19 5 = .int .u64 x9 := (congrFun qe19 5).trans s5_e18
      obtain ⟨x10, qx10, h⟩ := lt_e h
      have s7_e19 : e19 7 = .int .i64 x10 := (congrFun qe19 7).trans (congrArg (Value.int .i64) qx10.symm)
      clear qe19
      exact ih (y4.set (y6 : Int).toNat (((y4.getD (y6 : Int).toNat 0) + (a1.getD (y6 : Int).toNat 0) + y5) % 18446744073709551616)) x9 x10 _ _ (List.length_set.trans ly4) s2_e19 s3_e19 s4_e19 s5_e19 s7_e19 (hp.drop (L' := [⟨g1, 0, ints .u64 (y4.set (y6 : Int).toNat (((y4.getD (y6 : Int).toNat 0) + (a1.getD (y6 : Int).toNat 0) + y5) % 18446744073709551616))⟩, ⟨g2, 0, ints .u64 a1⟩, ⟨g3, 0, ints .u64 (List.replicate 4 (0 : Int))⟩]) (List.Sublist.refl _)) h
    · replace h := br_f hb h
      refine wexit rfl ?_
      exact hQ0 _ _ y4 ly4 s2_e16 s4_e16 (hp.drop (L' := [⟨g1, 0, ints .u64 y4⟩, ⟨g2, 0, ints .u64 a1⟩, ⟨g3, 0, ints .u64 (List.replicate 4 (0 : Int))⟩]) (List.Sublist.refl _)) (Option.some.inj h).symm
theorem scalar_number_add_ok (k : Nat) (a0 : List Int) (a1 : List Int) (la0 : a0.length = 4) (la1 : a1.length = 4) (w0 : World) (hp : Hp w0 [] w0 [] [⟨0, 0, ints .u64 [6346243789798364141, 1503914060200516822, 0, 1152921504606846976]⟩]) {r : List Int} (h : scalar_number_add.f k a0 a1 = some r) :
    Calls Tryd.prog 22 [.agg (ints .u64 a0).toArray, .agg (ints .u64 a1).toArray].toArray w0 fun x w' => ∃ v, x = .returned v ∧ v = .agg (ints .u64 r).toArray ∧ r.length = 4 ∧ Hp w0 [] w' [] [⟨0, 0, ints .u64 [6346243789798364141, 1503914060200516822, 0, 1152921504606846976]⟩] := by
  refine calls_in Tryd.func22 rfl (Nat.le_of_ble_eq_true (by kernel_rfl)) (by kernel_rfl) ?_
  intro e0 qe0
  have s0_e0 : e0 0 = .agg (ints .u64 a0).toArray := congrFun qe0 0
  have s1_e0 : e0 1 = .agg (ints .u64 a1).toArray := congrFun qe0 1
  clear qe0
  unfold scalar_number_add.f at h
  refine wseq rfl ?_
  refine wregion (.ef 0 (.ef 1 (.ef 2 (.done)))) [] rfl (by kernel_rfl) (by kernel_rfl) ?_
  refine k_box (v := .agg (ints .u64 a0).toArray) (ints .u64 a0) rfl s0_e0 rfl hp ?_
  intro g1 w hbg1 hp
  refine k_box (v := .agg (ints .u64 a1).toArray) (ints .u64 a1) rfl s1_e0 rfl hp ?_
  intro g2 w hbg2 hp
  refine k_alloc (ints .u64 (List.replicate 4 (0 : Int))) rfl (by kernel_rfl) hp ?_
  intro g3 w hbg3 hp
  refine k_end ?_; intro e13 qe13
  have s2_e13 : e13 2 = .pointer (some ⟨g1, 0, none⟩) := congrFun qe13 2
  have s3_e13 : e13 3 = .pointer (some ⟨g2, 0, none⟩) := congrFun qe13 3
  have s4_e13 : e13 4 = .pointer (some ⟨g3, 0, none⟩) := congrFun qe13 4
  clear qe13
  refine wseq rfl ?_
  refine wregion (.tp 0 (.done)) [] rfl (by kernel_rfl) (by kernel_rfl) ?_
  refine k_assign (v := .int .u64 0) rfl rfl ?_
  refine k_end ?_; intro e14 qe14
  have s2_e14 : e14 2 = .pointer (some ⟨g1, 0, none⟩) := (congrFun qe14 2).trans s2_e13
  have s3_e14 : e14 3 = .pointer (some ⟨g2, 0, none⟩) := (congrFun qe14 3).trans s3_e13
  have s4_e14 : e14 4 = .pointer (some ⟨g3, 0, none⟩) := (congrFun qe14 4).trans s4_e13
  have s5_e14 : e14 5 = .int .u64 0 := congrFun qe14 5
  clear qe14
  refine wseq rfl ?_
  refine wseq rfl ?_
  refine wregion (.tp 0 (.done)) [] rfl (by kernel_rfl) (by kernel_rfl) ?_
  refine k_move (v := .int .i64 0) rfl rfl ?_
  refine k_end ?_; intro e15 qe15
  have s2_e15 : e15 2 = .pointer (some ⟨g1, 0, none⟩) := (congrFun qe15 2).trans s2_e14
  have s3_e15 : e15 3 = .pointer (some ⟨g2, 0, none⟩) := (congrFun qe15 3).trans s3_e14
  have s4_e15 : e15 4 = .pointer (some ⟨g3, 0, none⟩) := (congrFun qe15 4).trans s4_e14
  have s5_e15 : e15 5 = .int .u64 0 := (congrFun qe15 5).trans s5_e14
  have s7_e15 : e15 7 = .int .i64 0 := congrFun qe15 7
  clear qe15
  refine wblock rfl ?_
  obtain ⟨r11, qr11, h⟩ := bd_e h
  refine wloop k rfl (scalar_number_add.p1_ok g1 g2 g3 a1 la1 ?hq0 k a0 0 0 e15 _ la0 s2_e15 s3_e15 s4_e15 s5_e15 s7_e15 hp qr11)
  case hq0 =>
    intro e20 w m12 lm12 s2_e20 s4_e20 hp qq
    rw [qq] at h; clear qq
    refine wseq rfl ?_
    refine wregion (.tk 0 (.ef 1 (.done))) [1] rfl (by kernel_rfl) (by kernel_rfl) ?_
    refine k_loadA (n := 4) (xs := ints .u64 m12) 0 rfl (by kernel_rfl) (by kernel_rfl) s2_e20 (hp.get (j := 0) rfl) rfl rfl ((ints_length _ _).trans lm12) (fun m v hm => by rw [Nat.zero_add]; exact hm) ?_
    refine k_storeA (v := .agg (ints .u64 m12).toArray) 2 0 (r := ⟨g3, 0, ints .u64 (List.replicate 4 (0 : Int))⟩) (ints .u64 m12) (ints .u64 m12) rfl (n := 4) (by kernel_rfl) s4_e20 rfl rfl ((ints_length _ _).trans lm12) (ints_one _ _) hp rfl rfl rfl (Nat.le_of_eq ((Nat.zero_add _).trans ((ints_length _ _).trans List.length_replicate).symm)) (setMany_all _ _ (((ints_length _ _).trans lm12).trans ((ints_length _ _).trans List.length_replicate).symm)) (by decide) ?_; intro w hp
    refine k_end ?_; intro e21 qe21
    have s4_e21 : e21 4 = .pointer (some ⟨g3, 0, none⟩) := (congrFun qe21 4).trans s4_e20
    clear qe21
    refine wret rfl ?_
    have hr : r = m12 := (Option.some.inj h).symm
    show RetP _ _ _ _ _
    rw [hr]
    exact ret_i [.agg (ints .u64 m12).toArray] (res_cell s4_e21 (loadVar_agg (by kernel_rfl) (by kernel_rfl) ((ints_length _ _).trans lm12) (hp.get (j := 2) rfl) rfl rfl rfl) res_nil) ⟨rfl, lm12, hp.none⟩
/-! 24 (postilion/scalar.number).sub -/
theorem scalar_number_sub.p1_ok {w0 : World} {Ws : List Wr} {Q : Exit → Env → World → Prop} (g1 g2 g3 : Nat) (a1 : List Int) (l_a1 : a1.length = 4) {r : Int × List Int} (hQ0 : ∀ (e' : Env) (w' : World) (z0 : Int) (z1 : List Int), z1.length = 4 → e' 2 = .pointer (some ⟨g1, 0, none⟩) → e' 4 = .pointer (some ⟨g3, 0, none⟩) → e' 6 = .int .u64 z0 → Hp w0 Ws w' [⟨g1, 0, ints .u64 z1⟩, ⟨g2, 0, ints .u64 a1⟩, ⟨g3, 0, ints .u64 (List.replicate 4 (0 : Int))⟩] [⟨0, 0, ints .u64 [6346243789798364141, 1503914060200516822, 0, 1152921504606846976]⟩] → r = (z0, z1) → Q (.exit 0) e' w') : ∀ (k : Nat), ∀ (y4 : List Int) (y5 : Int) (y6 : Int) (e : Env) (w : World) (ly4 : y4.length = 4) (s2_e : e 2 = .pointer (some ⟨g1, 0, none⟩)) (s3_e : e 3 = .pointer (some ⟨g2, 0, none⟩)) (s4_e : e 4 = .pointer (some ⟨g3, 0, none⟩)) (s6_e : e 6 = .int .u64 y5) (s8_e : e 8 = .int .i64 y6) (hp : Hp w0 Ws w [⟨g1, 0, ints .u64 y4⟩, ⟨g2, 0, ints .u64 a1⟩, ⟨g3, 0, ints .u64 (List.replicate 4 (0 : Int))⟩] [⟨0, 0, ints .u64 [6346243789798364141, 1503914060200516822, 0, 1152921504606846976]⟩]) (h : scalar_number_sub.p1 k a1 y4 y5 y6 = some r), Lp Tryd.prog Tryd.f24.ntmps (at_ (fbody Tryd.f24) [1, 1, 0, 1, 0, 0]) Q k e w := by
  intro k
  induction k with
  | zero => intro y4 y5 y6 e w ly4 s2_e s3_e s4_e s6_e s8_e hp h; cases h
  | succ k ih =>
    intro y4 y5 y6 e w ly4 s2_e s3_e s4_e s6_e s8_e hp h
    unfold scalar_number_sub.p1 at h
    show Wp _ _ _ _ _ _
    refine wseq rfl ?_
    refine wregion (.tp 0 (.done)) [] rfl (by kernel_rfl) (by kernel_rfl) ?_
    refine k_bin (X := .int .i64 y6) (Y := .int .i64 4) rfl s8_e rfl rfl ?_
    refine k_end ?_; intro e25 qe25
    have s2_e25 : e25 2 = .pointer (some ⟨g1, 0, none⟩) := (congrFun qe25 2).trans s2_e
    have s3_e25 : e25 3 = .pointer (some ⟨g2, 0, none⟩) := (congrFun qe25 3).trans s3_e
    have s4_e25 : e25 4 = .pointer (some ⟨g3, 0, none⟩) := (congrFun qe25 4).trans s4_e
    have s6_e25 : e25 6 = .int .u64 y5 := (congrFun qe25 6).trans s6_e
    have s8_e25 : e25 8 = .int .i64 y6 := (congrFun qe25 8).trans s8_e
    have s9_e25 : e25 9 = .bool (decide (y6 < 4)) := congrFun qe25 9
    clear qe25
    refine wseq rfl ?_
    refine wcond (t := (decide (y6 < 4))) rfl (by decide) s9_e25 (fun hb => ?_) (fun hb => ?_)
    · replace h := br_t hb h
      refine wskip rfl ?_
      refine wseq rfl ?_
      refine wblock rfl ?_
      refine wseq rfl ?_
      refine wregion (.tp 0 (.tp 1 (.done))) [] rfl (by kernel_rfl) (by kernel_rfl) ?_
      refine k_move (v := .int .i64 y6) rfl s8_e25 ?_
      refine k_assign (v := .int .i64 y6) rfl rfl ?_
      refine k_end ?_; intro e26 qe26
      have s2_e26 : e26 2 = .pointer (some ⟨g1, 0, none⟩) := (congrFun qe26 2).trans s2_e25
      have s3_e26 : e26 3 = .pointer (some ⟨g2, 0, none⟩) := (congrFun qe26 3).trans s3_e25
      have s4_e26 : e26 4 = .pointer (some ⟨g3, 0, none⟩) := (congrFun qe26 4).trans s4_e25
      have s6_e26 : e26 6 = .int .u64 y5 := (congrFun qe26 6).trans s6_e25
      have s7_e26 : e26 7 = .int .i64 y6 := congrFun qe26 7
      have s8_e26 : e26 8 = .int .i64 y6 := (congrFun qe26 8).trans s8_e25
      clear qe26
      refine wregion_d (.tp 0 (.tp 1 (.tp 2 (.tk 3 (.tp 4 (.tp 5 (.tk 6 (.tp 7 (.tp 8 (.tp 9 (.tp 10 (.tp 11 (.tp 12 (.ef 13 (.tp 14 (.done)))))))))))))))) [13] rfl (by kernel_rfl) (by kernel_rfl) (Nat.le_of_ble_eq_true (by kernel_rfl)) (by kernel_rfl) ?_
      have hp := hp.drew
      refine k_move (v := .int .i64 y6) rfl s7_e26 ?_
      refine k_move (v := .int .i64 y6) rfl s7_e26 ?_
      obtain ⟨c7, h⟩ := chk_e h
      refine k_indexA (n := 4) (s := 1) (j := y6) rfl Tryd.underlying35 (by kernel_rfl) s2_e26 rfl c7 ?_
      refine k_load (j := (y6 : Int).toNat) (v := .int .u64 (y4.getD (y6 : Int).toNat 0)) rfl (by kernel_rfl) rfl (hp.get (j := 0) rfl) rfl (show 0 + (y6 : Int).toNat * 1 = 0 + (y6 : Int).toNat by omega) (ints_get (idx_lt c7 ly4)) ?_
      refine k_move (v := .int .i64 y6) rfl s7_e26 ?_
      refine k_indexA (n := 4) (s := 1) (j := y6) rfl Tryd.underlying35 (by kernel_rfl) s3_e26 rfl c7 ?_
      refine k_load (j := (y6 : Int).toNat) (v := .int .u64 (a1.getD (y6 : Int).toNat 0)) rfl (by kernel_rfl) rfl (hp.get (j := 1) rfl) rfl (show 0 + (y6 : Int).toNat * 1 = 0 + (y6 : Int).toNat by omega) (ints_get (idx_lt c7 l_a1)) ?_
      refine k_move (v := .int .u64 y5) rfl s6_e26 ?_
      obtain ⟨c8, h⟩ := chk_e h
      refine k_ext [.int .u64 (y4.getD (y6 : Int).toNat 0), .int .u64 (a1.getD (y6 : Int).toNat 0), .int .u64 y5] rfl ext33 (args3 rfl rfl rfl) (fun w' => run_sub64 (y4.getD (y6 : Int).toNat 0) (a1.getD (y6 : Int).toNat 0) y5 c8.1 c8.2.1 c8.2.2.1 c8.2.2.2 w') ?_
      refine k_move (v := .tuple #[.int .u64 (((y4.getD (y6 : Int).toNat 0) - (a1.getD (y6 : Int).toNat 0) - y5) % 18446744073709551616), .int .u64 (if (y4.getD (y6 : Int).toNat 0) < (a1.getD (y6 : Int).toNat 0) + y5 then 1 else 0)]) rfl rfl ?_
      refine k_extract (v := .int .u64 (((y4.getD (y6 : Int).toNat 0) - (a1.getD (y6 : Int).toNat 0) - y5) % 18446744073709551616)) rfl rfl rfl ?_
      refine k_extract (v := .int .u64 (if (y4.getD (y6 : Int).toNat 0) < (a1.getD (y6 : Int).toNat 0) + y5 then 1 else 0)) rfl rfl rfl ?_
      refine k_indexA (n := 4) (s := 1) (j := y6) rfl Tryd.underlying35 (by kernel_rfl) s2_e26 rfl c7 ?_
      refine k_store (v := .int .u64 (((y4.getD (y6 : Int).toNat 0) - (a1.getD (y6 : Int).toNat 0) - y5) % 18446744073709551616)) 0 (y6 : Int).toNat (r := ⟨g1, 0, ints .u64 y4⟩) rfl (by kernel_rfl) rfl rfl rfl hp rfl rfl (show 0 + (y6 : Int).toNat * 1 = 0 + (y6 : Int).toNat by omega) (Nat.lt_of_lt_of_eq (idx_lt c7 ly4) (ints_length _ _).symm) (by decide) ?_; intro w hp; rw [ints_set] at hp
      refine k_assign (v := .int .u64 (if (y4.getD (y6 : Int).toNat 0) < (a1.getD (y6 : Int).toNat 0) + y5 then 1 else 0)) rfl rfl ?_
      refine k_end ?_; intro e27 qe27
      have s2_e27 : e27 2 = .pointer (some ⟨g1, 0, none⟩) := (congrFun qe27 2).trans s2_e26
      have s3_e27 : e27 3 = .pointer (some ⟨g2, 0, none⟩) := (congrFun qe27 3).trans s3_e26
      have s4_e27 : e27 4 = .pointer (some ⟨g3, 0, none⟩) := (congrFun qe27 4).trans s4_e26
      obtain ⟨x9, qx9, h⟩ := lt_e h
      have s6_e27 : e27 6 = .int .u64 x9 := (congrFun qe27 6).trans (congrArg (Value.int .u64) qx9.symm)
      have s8_e27 : e27 8 = .int .i64 y6 := (congrFun qe27 8).trans s8_e26
      clear qe27
      refine wregion (.tp 0 (.tp 1 (.done))) [] rfl (by kernel_rfl) (by kernel_rfl) ?_
      refine k_bin (X := .int .i64 y6) (Y := .int .i64 1) rfl s8_e27 rfl rfl ?_
      refine k_move (v := .int .i64 (IntKind.i64.wrap (y6 + 1))) rfl rfl ?_
      refine k_end ?_; intro e28 qe28
      have s2_e28 : e28 2 = .pointer (some ⟨g1, 0, none⟩) := (congrFun qe28 2).trans s2_e27
      have s3_e28 : e28 3 = .pointer (some ⟨g2, 0, none⟩) := (congrFun qe28 3).trans s3_e27
      have s4_e28 : e28 4 = .pointer (some ⟨g3, 0, none⟩) := (congrFun qe28 4).trans s4_e27
      have s6_e28 : e28 6 = .int .u64 x9 := (congrFun qe28 6).trans s6_e27
      obtain ⟨x10, qx10, h⟩ := lt_e h
      have s8_e28 : e28 8 = .int .i64 x10 := (congrFun qe28 8).trans (congrArg (Value.int .i64) qx10.symm)
      clear qe28
      exact ih (y4.set (y6 : Int).toNat (((y4.getD (y6 : Int).toNat 0) - (a1.getD (y6 : Int).toNat 0) - y5) % 18446744073709551616)) x9 x10 _ _ (List.length_set.trans ly4) s2_e28 s3_e28 s4_e28 s6_e28 s8_e28 (hp.drop (L' := [⟨g1, 0, ints .u64 (y4.set (y6 : Int).toNat (((y4.getD (y6 : Int).toNat 0) - (a1.getD (y6 : Int).toNat 0) - y5) % 18446744073709551616))⟩, ⟨g2, 0, ints .u64 a1⟩, ⟨g3, 0, ints .u64 (List.replicate 4 (0 : Int))⟩]) (List.Sublist.refl _)) h
    · replace h := br_f hb h
      refine wexit rfl ?_
      exact hQ0 _ _ y5 y4 ly4 s2_e25 s4_e25 s6_e25 (hp.drop (L' := [⟨g1, 0, ints .u64 y4⟩, ⟨g2, 0, ints .u64 a1⟩, ⟨g3, 0, ints .u64 (List.replicate 4 (0 : Int))⟩]) (List.Sublist.refl _)) (Option.some.inj h).symm
theorem scalar_number_sub_ok (k : Nat) (a0 : List Int) (a1 : List Int) (la0 : a0.length = 4) (la1 : a1.length = 4) (w0 : World) (hp : Hp w0 [] w0 [] [⟨0, 0, ints .u64 [6346243789798364141, 1503914060200516822, 0, 1152921504606846976]⟩]) {r : List Int × Int} (h : scalar_number_sub.f k a0 a1 = some r) :
    Calls Tryd.prog 24 [.agg (ints .u64 a0).toArray, .agg (ints .u64 a1).toArray].toArray w0 fun x w' => ∃ v, x = .returned v ∧ v = .tuple #[.agg (ints .u64 r.1).toArray, .int .u64 r.2] ∧ r.1.length = 4 ∧ Hp w0 [] w' [] [⟨0, 0, ints .u64 [6346243789798364141, 1503914060200516822, 0, 1152921504606846976]⟩] := by
  refine calls_in Tryd.func24 rfl (Nat.le_of_ble_eq_true (by kernel_rfl)) (by kernel_rfl) ?_
  intro e0 qe0
  have s0_e0 : e0 0 = .agg (ints .u64 a0).toArray := congrFun qe0 0
  have s1_e0 : e0 1 = .agg (ints .u64 a1).toArray := congrFun qe0 1
  clear qe0
  unfold scalar_number_sub.f at h
  refine wseq rfl ?_
  refine wregion (.ef 0 (.ef 1 (.ef 2 (.tp 3 (.done))))) [] rfl (by kernel_rfl) (by kernel_rfl) ?_
  refine k_box (v := .agg (ints .u64 a0).toArray) (ints .u64 a0) rfl s0_e0 rfl hp ?_
  intro g1 w hbg1 hp
  refine k_box (v := .agg (ints .u64 a1).toArray) (ints .u64 a1) rfl s1_e0 rfl hp ?_
  intro g2 w hbg2 hp
  refine k_alloc (ints .u64 (List.replicate 4 (0 : Int))) rfl (by kernel_rfl) hp ?_
  intro g3 w hbg3 hp
  refine k_assign (v := .int .u64 0) rfl rfl ?_
  refine k_end ?_; intro e22 qe22
  have s2_e22 : e22 2 = .pointer (some ⟨g1, 0, none⟩) := congrFun qe22 2
  have s3_e22 : e22 3 = .pointer (some ⟨g2, 0, none⟩) := congrFun qe22 3
  have s4_e22 : e22 4 = .pointer (some ⟨g3, 0, none⟩) := congrFun qe22 4
  clear qe22
  refine wseq rfl ?_
  refine wregion (.tp 0 (.done)) [] rfl (by kernel_rfl) (by kernel_rfl) ?_
  refine k_assign (v := .int .u64 0) rfl rfl ?_
  refine k_end ?_; intro e23 qe23
  have s2_e23 : e23 2 = .pointer (some ⟨g1, 0, none⟩) := (congrFun qe23 2).trans s2_e22
  have s3_e23 : e23 3 = .pointer (some ⟨g2, 0, none⟩) := (congrFun qe23 3).trans s3_e22
  have s4_e23 : e23 4 = .pointer (some ⟨g3, 0, none⟩) := (congrFun qe23 4).trans s4_e22
  have s6_e23 : e23 6 = .int .u64 0 := congrFun qe23 6
  clear qe23
  refine wseq rfl ?_
  refine wseq rfl ?_
  refine wregion (.tp 0 (.done)) [] rfl (by kernel_rfl) (by kernel_rfl) ?_
  refine k_move (v := .int .i64 0) rfl rfl ?_
  refine k_end ?_; intro e24 qe24
  have s2_e24 : e24 2 = .pointer (some ⟨g1, 0, none⟩) := (congrFun qe24 2).trans s2_e23
  have s3_e24 : e24 3 = .pointer (some ⟨g2, 0, none⟩) := (congrFun qe24 3).trans s3_e23
  have s4_e24 : e24 4 = .pointer (some ⟨g3, 0, none⟩) := (congrFun qe24 4).trans s4_e23
  have s6_e24 : e24 6 = .int .u64 0 := (congrFun qe24 6).trans s6_e23
  have s8_e24 : e24 8 = .int .i64 0 := congrFun qe24 8
  clear qe24
  refine wblock rfl ?_
  obtain ⟨r11, qr11, h⟩ := bd_e h
  refine wloop k rfl (scalar_number_sub.p1_ok g1 g2 g3 a1 la1 ?hq0 k a0 0 0 e24 _ la0 s2_e24 s3_e24 s4_e24 s6_e24 s8_e24 hp qr11)
  case hq0 =>
    intro e29 w m12 m13 lm13 s2_e29 s4_e29 s6_e29 hp qq
    rw [qq] at h; clear qq
    refine wseq rfl ?_
    refine wregion (.tk 0 (.tp 1 (.ef 2 (.tp 3 (.done))))) [2] rfl (by kernel_rfl) (by kernel_rfl) ?_
    refine k_loadA (n := 4) (xs := ints .u64 m13) 0 rfl (by kernel_rfl) (by kernel_rfl) s2_e29 (hp.get (j := 0) rfl) rfl rfl ((ints_length _ _).trans lm13) (fun m v hm => by rw [Nat.zero_add]; exact hm) ?_
    refine k_move (v := .int .u64 m12) rfl s6_e29 ?_
    refine k_storeA (v := .agg (ints .u64 m13).toArray) 2 0 (r := ⟨g3, 0, ints .u64 (List.replicate 4 (0 : Int))⟩) (ints .u64 m13) (ints .u64 m13) rfl (n := 4) (by kernel_rfl) s4_e29 rfl rfl ((ints_length _ _).trans lm13) (ints_one _ _) hp rfl rfl rfl (Nat.le_of_eq ((Nat.zero_add _).trans ((ints_length _ _).trans List.length_replicate).symm)) (setMany_all _ _ (((ints_length _ _).trans lm13).trans ((ints_length _ _).trans List.length_replicate).symm)) (by decide) ?_; intro w hp
    refine k_assign (v := .int .u64 m12) rfl rfl ?_
    refine k_end ?_; intro e30 qe30
    have s4_e30 : e30 4 = .pointer (some ⟨g3, 0, none⟩) := (congrFun qe30 4).trans s4_e29
    have s5_e30 : e30 5 = .int .u64 m12 := congrFun qe30 5
    clear qe30
    refine wret rfl ?_
    have hr : r = (m13, m12) := (Option.some.inj h).symm
    show RetP _ _ _ _ _
    rw [hr]
    exact ret_i [.agg (ints .u64 m13).toArray, .int .u64 m12] (res_cell s4_e30 (loadVar_agg (by kernel_rfl) (by kernel_rfl) ((ints_length _ _).trans lm13) (hp.get (j := 2) rfl) rfl rfl rfl) (res_tmp s5_e30 res_nil)) ⟨rfl, lm13, hp.none⟩
/-! 23 (postilion/scalar.number).less -/
theorem scalar_number_less_ok (k : Nat) (a0 : List Int) (la0 : a0.length = 4) (w0 : World) (hp : Hp w0 [] w0 [] [⟨0, 0, ints .u64 [6346243789798364141, 1503914060200516822, 0, 1152921504606846976]⟩]) {r : List Int} (h : scalar_number_less.f k a0 = some r) :
    Calls Tryd.prog 23 [.agg (ints .u64 a0).toArray].toArray w0 fun x w' => ∃ v, x = .returned v ∧ v = .agg (ints .u64 r).toArray ∧ r.length = 4 ∧ Hp w0 [] w' [] [⟨0, 0, ints .u64 [6346243789798364141, 1503914060200516822, 0, 1152921504606846976]⟩] := by
  refine calls_in Tryd.func23 rfl (Nat.le_of_ble_eq_true (by kernel_rfl)) (by kernel_rfl) ?_
  intro e0 qe0
  have s0_e0 : e0 0 = .agg (ints .u64 a0).toArray := congrFun qe0 0
  clear qe0
  unfold scalar_number_less.f at h
  refine wseq rfl ?_
  refine wregion (.ef 0 (.ef 1 (.done))) [] rfl (by kernel_rfl) (by kernel_rfl) ?_
  refine k_box (v := .agg (ints .u64 a0).toArray) (ints .u64 a0) rfl s0_e0 rfl hp ?_
  intro g1 w hbg1 hp
  refine k_alloc (ints .u64 (List.replicate 4 (0 : Int))) rfl (by kernel_rfl) hp ?_
  intro g2 w hbg2 hp
  refine k_end ?_; intro e31 qe31
  have s1_e31 : e31 1 = .pointer (some ⟨g1, 0, none⟩) := congrFun qe31 1
  have s2_e31 : e31 2 = .pointer (some ⟨g2, 0, none⟩) := congrFun qe31 2
  clear qe31
  refine wseq rfl ?_
  refine wseq rfl ?_
  refine wregion (.tk 0 (.tk 1 (.ef 2 (.tp 3 (.tp 4 (.tp 5 (.ef 6 (.ef 7 (.tp 8 (.done)))))))))) [7] rfl (by kernel_rfl) (by kernel_rfl) ?_
  refine k_loadA (n := 4) (xs := ints .u64 a0) 0 rfl (by kernel_rfl) (by kernel_rfl) s1_e31 (hp.get (j := 0) rfl) rfl rfl ((ints_length _ _).trans la0) (fun m v hm => by rw [Nat.zero_add]; exact hm) ?_
  refine k_loadA (n := 4) (xs := ints .u64 [6346243789798364141, 1503914060200516822, 0, 1152921504606846976]) 0 rfl (by kernel_rfl) (by kernel_rfl) rfl (hp.getR (j := 0) rfl) rfl rfl ((ints_length _ _).trans (rfl : List.length ([6346243789798364141, 1503914060200516822, 0, 1152921504606846976] : List Int) = 4)) (fun m v hm => by rw [Nat.zero_add]; exact hm) ?_
  obtain ⟨r3, qr3, h⟩ := bd_e h
  refine k_call [.agg (ints .u64 a0).toArray, .agg (ints .u64 [6346243789798364141, 1503914060200516822, 0, 1152921504606846976]).toArray] rfl (by kernel_rfl) (args2 rfl rfl) (scalar_number_sub_ok k a0 [6346243789798364141, 1503914060200516822, 0, 1152921504606846976] la0 (rfl : List.length ([6346243789798364141, 1503914060200516822, 0, 1152921504606846976] : List Int) = 4) _ (hp.toR (fun r hr => by rw [List.mem_singleton] at hr; subst hr; exact .inr (List.mem_of_getElem? (i := 0) rfl))) qr3) ?_
  rintro _ w' ⟨_, rfl, rfl, lr30, hpc⟩
  refine ⟨_, rfl, .inr (.of_below hpc.chg.to_below), ?_⟩; have hp := hp.below hpc.chg.to_below; clear hpc
  refine k_move (v := .tuple #[.agg (ints .u64 r3.1).toArray, .int .u64 r3.2]) rfl rfl ?_
  refine k_extract (v := .agg (ints .u64 r3.1).toArray) rfl rfl rfl ?_
  refine k_extract (v := .int .u64 r3.2) rfl rfl rfl ?_
  refine k_alloc (ints .u64 (List.replicate 4 (0 : Int))) rfl (by kernel_rfl) hp ?_
  intro g4 w hbg4 hp
  refine k_storeA (v := .agg (ints .u64 r3.1).toArray) 2 0 (r := ⟨g4, 0, ints .u64 (List.replicate 4 (0 : Int))⟩) (ints .u64 r3.1) (ints .u64 r3.1) rfl (n := 4) (by kernel_rfl) rfl rfl rfl ((ints_length _ _).trans lr30) (ints_one _ _) hp rfl rfl rfl (Nat.le_of_eq ((Nat.zero_add _).trans ((ints_length _ _).trans List.length_replicate).symm)) (setMany_all _ _ (((ints_length _ _).trans lr30).trans ((ints_length _ _).trans List.length_replicate).symm)) (by decide) ?_; intro w hp
  refine k_assign (v := .int .u64 r3.2) rfl rfl ?_
  refine k_end ?_; intro e32 qe32
  have s1_e32 : e32 1 = .pointer (some ⟨g1, 0, none⟩) := (congrFun qe32 1).trans s1_e31
  have s2_e32 : e32 2 = .pointer (some ⟨g2, 0, none⟩) := (congrFun qe32 2).trans s2_e31
  have s3_e32 : e32 3 = .pointer (some ⟨g4, 0, none⟩) := congrFun qe32 3
  obtain ⟨x5, qx5, h⟩ := lt_e h
  have s4_e32 : e32 4 = .int .u64 x5 := (congrFun qe32 4).trans (congrArg (Value.int .u64) qx5.symm)
  clear qe32
  refine wseq rfl ?_
  refine wregion (.tp 0 (.tp 1 (.done))) [] rfl (by kernel_rfl) (by kernel_rfl) ?_
  refine k_move (v := .int .u64 x5) rfl s4_e32 ?_
  refine k_bin (X := .int .u64 x5) (Y := .int .u64 0) rfl rfl rfl rfl ?_
  refine k_end ?_; intro e33 qe33
  have s1_e33 : e33 1 = .pointer (some ⟨g1, 0, none⟩) := (congrFun qe33 1).trans s1_e32
  have s2_e33 : e33 2 = .pointer (some ⟨g2, 0, none⟩) := (congrFun qe33 2).trans s2_e32
  have s3_e33 : e33 3 = .pointer (some ⟨g4, 0, none⟩) := (congrFun qe33 3).trans s3_e32
  have s12_e33 : e33 12 = .bool (x5 == 0) := congrFun qe33 12
  clear qe33
  refine wcond (t := (x5 == 0)) rfl (by decide) s12_e33 (fun hb => ?_) (fun hb => ?_)
  · replace h := br_t hb h
    refine wseq rfl ?_
    refine wregion (.tk 0 (.ef 1 (.done))) [1] rfl (by kernel_rfl) (by kernel_rfl) ?_
    refine k_loadA (n := 4) (xs := ints .u64 r3.1) 0 rfl (by kernel_rfl) (by kernel_rfl) s3_e33 (hp.get (j := 2) rfl) rfl rfl ((ints_length _ _).trans lr30) (fun m v hm => by rw [Nat.zero_add]; exact hm) ?_
    refine k_storeA (v := .agg (ints .u64 r3.1).toArray) 1 0 (r := ⟨g2, 0, ints .u64 (List.replicate 4 (0 : Int))⟩) (ints .u64 r3.1) (ints .u64 r3.1) rfl (n := 4) (by kernel_rfl) s2_e33 rfl rfl ((ints_length _ _).trans lr30) (ints_one _ _) hp rfl rfl rfl (Nat.le_of_eq ((Nat.zero_add _).trans ((ints_length _ _).trans List.length_replicate).symm)) (setMany_all _ _ (((ints_length _ _).trans lr30).trans ((ints_length _ _).trans List.length_replicate).symm)) (by decide) ?_; intro w hp
    refine k_end ?_; intro e34 qe34
    have s2_e34 : e34 2 = .pointer (some ⟨g2, 0, none⟩) := (congrFun qe34 2).trans s2_e33
    clear qe34
    refine wret rfl ?_
    have hr : r = r3.1 := (Option.some.inj h).symm
    show RetP _ _ _ _ _
    rw [hr]
    exact ret_i [.agg (ints .u64 r3.1).toArray] (res_cell s2_e34 (loadVar_agg (by kernel_rfl) (by kernel_rfl) ((ints_length _ _).trans lr30) (hp.get (j := 1) rfl) rfl rfl rfl) res_nil) ⟨rfl, lr30, hp.none⟩
  · replace h := br_f hb h
    refine wskip rfl ?_
    refine wseq rfl ?_
    refine wregion (.tk 0 (.ef 1 (.done))) [1] rfl (by kernel_rfl) (by kernel_rfl) ?_
    refine k_loadA (n := 4) (xs := ints .u64 a0) 0 rfl (by kernel_rfl) (by kernel_rfl) s1_e33 (hp.get (j := 0) rfl) rfl rfl ((ints_length _ _).trans la0) (fun m v hm => by rw [Nat.zero_add]; exact hm) ?_
    refine k_storeA (v := .agg (ints .u64 a0).toArray) 1 0 (r := ⟨g2, 0, ints .u64 (List.replicate 4 (0 : Int))⟩) (ints .u64 a0) (ints .u64 a0) rfl (n := 4) (by kernel_rfl) s2_e33 rfl rfl ((ints_length _ _).trans la0) (ints_one _ _) hp rfl rfl rfl (Nat.le_of_eq ((Nat.zero_add _).trans ((ints_length _ _).trans List.length_replicate).symm)) (setMany_all _ _ (((ints_length _ _).trans la0).trans ((ints_length _ _).trans List.length_replicate).symm)) (by decide) ?_; intro w hp
    refine k_end ?_; intro e35 qe35
    have s2_e35 : e35 2 = .pointer (some ⟨g2, 0, none⟩) := (congrFun qe35 2).trans s2_e33
    clear qe35
    refine wret rfl ?_
    have hr : r = a0 := (Option.some.inj h).symm
    show RetP _ _ _ _ _
    rw [hr]
    exact ret_i [.agg (ints .u64 a0).toArray] (res_cell s2_e35 (loadVar_agg (by kernel_rfl) (by kernel_rfl) ((ints_length _ _).trans la0) (hp.get (j := 1) rfl) rfl rfl rfl) res_nil) ⟨rfl, la0, hp.none⟩
/-! 32 (postilion/scalar.number).shift -/
theorem scalar_number_shift.p1_ok {w0 : World} {Ws : List Wr} {Q : Exit → Env → World → Prop} (k : Nat) (g1 g17 g2 g22 g5 : Nat) (x23 : Int) (a0 : List Int) (a1 : Int) (r20 : List Int) (r21 : List Int × Int) (l_a0 : a0.length = 4) (l_r20 : r20.length = 4) (l_r21_1 : r21.1.length = 4) {r : List Int} (hQ0 : ∀ (e' : Env) (w' : World) (z0 : List Int), z0.length = 4 → e' 4 = .pointer (some ⟨g2, 0, none⟩) → e' 17 = .pointer (some ⟨g22, 0, none⟩) → Hp w0 Ws w' [⟨g1, 0, ints .u64 a0⟩, ⟨g2, 0, ints .u64 (List.replicate 4 (0 : Int))⟩, ⟨g5, 0, ints .u64 [a1, (a0.getD 0 0), (a0.getD 1 0), (bits .and .u64 (a0.getD 2 0) 1152921504606846975)]⟩, ⟨g17, 0, ints .u64 r20⟩, ⟨g22, 0, ints .u64 z0⟩] [⟨0, 0, ints .u64 [6346243789798364141, 1503914060200516822, 0, 1152921504606846976]⟩] → r = (z0) → Q .normal e' w') (e : Env) (w : World) (s4_e : e 4 = .pointer (some ⟨g2, 0, none⟩)) (s17_e : e 17 = .pointer (some ⟨g22, 0, none⟩)) (s82_e : e 82 = .bool (x23 != 0)) (hp : Hp w0 Ws w [⟨g1, 0, ints .u64 a0⟩, ⟨g2, 0, ints .u64 (List.replicate 4 (0 : Int))⟩, ⟨g5, 0, ints .u64 [a1, (a0.getD 0 0), (a0.getD 1 0), (bits .and .u64 (a0.getD 2 0) 1152921504606846975)]⟩, ⟨g17, 0, ints .u64 r20⟩, ⟨g22, 0, ints .u64 r21.1⟩] [⟨0, 0, ints .u64 [6346243789798364141, 1503914060200516822, 0, 1152921504606846976]⟩]) (h : scalar_number_shift.p1 k x23 r21 = some r) : Wp Tryd.prog Tryd.f32.ntmps (at_ (fbody Tryd.f32) [1, 1, 1, 1, 1, 1, 1, 1, 1, 1, 1, 1, 0, 1]) Q e w := by
  unfold scalar_number_shift.p1 at h
  refine wcond (t := (x23 != 0)) rfl (by decide) s82_e (fun hb => ?_) (fun hb => ?_)
  · replace h := br_t hb h
    refine wregion (.tk 0 (.tk 1 (.ef 2 (.ef 3 (.done))))) [3] rfl (by kernel_rfl) (by kernel_rfl) ?_
    refine k_loadA (n := 4) (xs := ints .u64 r21.1) 0 rfl (by kernel_rfl) (by kernel_rfl) s17_e (hp.get (j := 4) rfl) rfl rfl ((ints_length _ _).trans l_r21_1) (fun m v hm => by rw [Nat.zero_add]; exact hm) ?_
    refine k_loadA (n := 4) (xs := ints .u64 [6346243789798364141, 1503914060200516822, 0, 1152921504606846976]) 0 rfl (by kernel_rfl) (by kernel_rfl) rfl (hp.getR (j := 0) rfl) rfl rfl ((ints_length _ _).trans (rfl : List.length ([6346243789798364141, 1503914060200516822, 0, 1152921504606846976] : List Int) = 4)) (fun m v hm => by rw [Nat.zero_add]; exact hm) ?_
    obtain ⟨r24, qr24, h⟩ := bd_e h
    refine k_call [.agg (ints .u64 r21.1).toArray, .agg (ints .u64 [6346243789798364141, 1503914060200516822, 0, 1152921504606846976]).toArray] rfl (by kernel_rfl) (args2 rfl rfl) (scalar_number_add_ok k r21.1 [6346243789798364141, 1503914060200516822, 0, 1152921504606846976] l_r21_1 (rfl : List.length ([6346243789798364141, 1503914060200516822, 0, 1152921504606846976] : List Int) = 4) _ (hp.toR (fun r hr => by rw [List.mem_singleton] at hr; subst hr; exact .inr (List.mem_of_getElem? (i := 0) rfl))) qr24) ?_
    rintro _ w' ⟨_, rfl, rfl, lr240, hpc⟩
    refine ⟨_, rfl, .inr (.of_below hpc.chg.to_below), ?_⟩; have hp := hp.below hpc.chg.to_below; clear hpc
    refine k_storeA (v := .agg (ints .u64 r24).toArray) 4 0 (r := ⟨g22, 0, ints .u64 r21.1⟩) (ints .u64 r24) (ints .u64 r24) rfl (n := 4) (by kernel_rfl) s17_e rfl rfl ((ints_length _ _).trans lr240) (ints_one _ _) hp rfl rfl rfl (Nat.le_of_eq ((Nat.zero_add _).trans ((ints_length _ _).trans l_r21_1).symm)) (setMany_all _ _ (((ints_length _ _).trans lr240).trans ((ints_length _ _).trans l_r21_1).symm)) (by decide) ?_; intro w hp
    refine k_end ?_; intro e49 qe49
    have s4_e49 : e49 4 = .pointer (some ⟨g2, 0, none⟩) := (congrFun qe49 4).trans s4_e
    have s17_e49 : e49 17 = .pointer (some ⟨g22, 0, none⟩) := (congrFun qe49 17).trans s17_e
    clear qe49
    exact hQ0 _ _ r24 lr240 s4_e49 s17_e49 (hp.drop (L' := [⟨g1, 0, ints .u64 a0⟩, ⟨g2, 0, ints .u64 (List.replicate 4 (0 : Int))⟩, ⟨g5, 0, ints .u64 [a1, (a0.getD 0 0), (a0.getD 1 0), (bits .and .u64 (a0.getD 2 0) 1152921504606846975)]⟩, ⟨g17, 0, ints .u64 r20⟩, ⟨g22, 0, ints .u64 r24⟩]) (List.Sublist.refl _)) (Option.some.inj h).symm
  · replace h := br_f hb h
    refine wskip rfl ?_
    exact hQ0 _ _ r21.1 l_r21_1 s4_e s17_e (hp.drop (L' := [⟨g1, 0, ints .u64 a0⟩, ⟨g2, 0, ints .u64 (List.replicate 4 (0 : Int))⟩, ⟨g5, 0, ints .u64 [a1, (a0.getD 0 0), (a0.getD 1 0), (bits .and .u64 (a0.getD 2 0) 1152921504606846975)]⟩, ⟨g17, 0, ints .u64 r20⟩, ⟨g22, 0, ints .u64 r21.1⟩]) (List.Sublist.refl _)) (Option.some.inj h).symm
theorem scalar_number_shift_ok (k : Nat) (a0 : List Int) (a1 : Int) (la0 : a0.length = 4) (w0 : World) (hp : Hp w0 [] w0 [] [⟨0, 0, ints .u64 [6346243789798364141, 1503914060200516822, 0, 1152921504606846976]⟩]) {r : List Int} (h : scalar_number_shift.f k a0 a1 = some r) :
    Calls Tryd.prog 32 [.agg (ints .u64 a0).toArray, .int .u64 a1].toArray w0 fun x w' => ∃ v, x = .returned v ∧ v = .agg (ints .u64 r).toArray ∧ r.length = 4 ∧ Hp w0 [] w' [] [⟨0, 0, ints .u64 [6346243789798364141, 1503914060200516822, 0, 1152921504606846976]⟩] := by
  refine calls_in Tryd.func32 rfl (Nat.le_of_ble_eq_true (by kernel_rfl)) (by kernel_rfl) ?_
  intro e0 qe0
  have s0_e0 : e0 0 = .agg (ints .u64 a0).toArray := congrFun qe0 0
  have s1_e0 : e0 1 = .int .u64 a1 := congrFun qe0 1
  clear qe0
  unfold scalar_number_shift.f at h
  refine wseq rfl ?_
  refine wregion (.ef 0 (.ef 1 (.done))) [] rfl (by kernel_rfl) (by kernel_rfl) ?_
  refine k_box (v := .agg (ints .u64 a0).toArray) (ints .u64 a0) rfl s0_e0 rfl hp ?_
  intro g1 w hbg1 hp
  refine k_alloc (ints .u64 (List.replicate 4 (0 : Int))) rfl (by kernel_rfl) hp ?_
  intro g2 w hbg2 hp
  refine k_end ?_; intro e36 qe36
  have s1_e36 : e36 1 = .int .u64 a1 := (congrFun qe36 1).trans s1_e0
  have s2_e36 : e36 2 = .pointer (some ⟨g1, 0, none⟩) := congrFun qe36 2
  have s4_e36 : e36 4 = .pointer (some ⟨g2, 0, none⟩) := congrFun qe36 4
  clear qe36
  refine wseq rfl ?_
  refine wregion_d (.tp 0 (.tk 1 (.tp 2 (.tp 3 (.tk 4 (.tp 5 (.tp 6 (.tp 7 (.tk 8 (.tp 9 (.tp 10 (.tp 11 (.done))))))))))))) [] rfl (by kernel_rfl) (by kernel_rfl) (Nat.le_of_ble_eq_true (by kernel_rfl)) (by kernel_rfl) ?_
  have hp := hp.drew
  refine k_indexA (n := 4) (s := 1) (j := 2) rfl Tryd.underlying35 (by kernel_rfl) s2_e36 rfl (by decide) ?_
  refine k_load (j := 2) (v := .int .u64 (a0.getD 2 0)) rfl (by kernel_rfl) rfl (hp.get (j := 0) rfl) rfl rfl (ints_get (Nat.lt_of_lt_of_eq (by decide) (la0).symm)) ?_
  refine k_shr (a := (a0.getD 2 0)) (b := 60) rfl rfl rfl (by decide) ?_
  refine k_indexA (n := 4) (s := 1) (j := 3) rfl Tryd.underlying35 (by kernel_rfl) s2_e36 rfl (by decide) ?_
  refine k_load (j := 3) (v := .int .u64 (a0.getD 3 0)) rfl (by kernel_rfl) rfl (hp.get (j := 0) rfl) rfl rfl (ints_get (Nat.lt_of_lt_of_eq (by decide) (la0).symm)) ?_
  refine k_shl (a := (a0.getD 3 0)) (b := 4) rfl rfl rfl (by decide) ?_
  refine k_bin (X := .int .u64 (Int.fdiv (a0.getD 2 0) (2 ^ 60))) (Y := .int .u64 (IntKind.u64.wrap ((a0.getD 3 0) * 2 ^ 4))) rfl rfl rfl rfl ?_
  refine k_indexA (n := 4) (s := 1) (j := 3) rfl Tryd.underlying35 (by kernel_rfl) s2_e36 rfl (by decide) ?_
  refine k_load (j := 3) (v := .int .u64 (a0.getD 3 0)) rfl (by kernel_rfl) rfl (hp.get (j := 0) rfl) rfl rfl (ints_get (Nat.lt_of_lt_of_eq (by decide) (la0).symm)) ?_
  refine k_shr (a := (a0.getD 3 0)) (b := 60) rfl rfl rfl (by decide) ?_
  refine k_assign (v := .int .u64 (bits .or .u64 (Int.fdiv (a0.getD 2 0) (2 ^ 60)) (IntKind.u64.wrap ((a0.getD 3 0) * 2 ^ 4)))) rfl rfl ?_
  refine k_assign (v := .int .u64 (Int.fdiv (a0.getD 3 0) (2 ^ 60))) rfl rfl ?_
  refine k_end ?_; intro e37 qe37
  have s1_e37 : e37 1 = .int .u64 a1 := (congrFun qe37 1).trans s1_e36
  have s2_e37 : e37 2 = .pointer (some ⟨g1, 0, none⟩) := (congrFun qe37 2).trans s2_e36
  have s4_e37 : e37 4 = .pointer (some ⟨g2, 0, none⟩) := (congrFun qe37 4).trans s4_e36
  obtain ⟨x3, qx3, h⟩ := lt_e h
  have s5_e37 : e37 5 = .int .u64 x3 := (congrFun qe37 5).trans (congrArg (Value.int .u64) qx3.symm)
  obtain ⟨x4, qx4, h⟩ := lt_e h
  have s6_e37 : e37 6 = .int .u64 x4 := (congrFun qe37 6).trans (congrArg (Value.int .u64) qx4.symm)
  clear qe37
  refine wseq rfl ?_
  refine wregion (.tp 0 (.tp 1 (.tk 2 (.tp 3 (.tk 4 (.tp 5 (.tk 6 (.tp 7 (.tp 8 (.ef 9 (.ef 10 (.done)))))))))))) [10] rfl (by kernel_rfl) (by kernel_rfl) ?_
  refine k_move (v := .int .u64 a1) rfl s1_e37 ?_
  refine k_indexA (n := 4) (s := 1) (j := 0) rfl Tryd.underlying35 (by kernel_rfl) s2_e37 rfl (by decide) ?_
  refine k_load (j := 0) (v := .int .u64 (a0.getD 0 0)) rfl (by kernel_rfl) rfl (hp.get (j := 0) rfl) rfl rfl (ints_get (Nat.lt_of_lt_of_eq (by decide) (la0).symm)) ?_
  refine k_indexA (n := 4) (s := 1) (j := 1) rfl Tryd.underlying35 (by kernel_rfl) s2_e37 rfl (by decide) ?_
  refine k_load (j := 1) (v := .int .u64 (a0.getD 1 0)) rfl (by kernel_rfl) rfl (hp.get (j := 0) rfl) rfl rfl (ints_get (Nat.lt_of_lt_of_eq (by decide) (la0).symm)) ?_
  refine k_indexA (n := 4) (s := 1) (j := 2) rfl Tryd.underlying35 (by kernel_rfl) s2_e37 rfl (by decide) ?_
  refine k_load (j := 2) (v := .int .u64 (a0.getD 2 0)) rfl (by kernel_rfl) rfl (hp.get (j := 0) rfl) rfl rfl (ints_get (Nat.lt_of_lt_of_eq (by decide) (la0).symm)) ?_
  refine k_bin (X := .int .u64 (a0.getD 2 0)) (Y := .int .u64 1152921504606846975) rfl rfl rfl rfl ?_
  refine k_build (v := .agg (ints .u64 [a1, (a0.getD 0 0), (a0.getD 1 0), (bits .and .u64 (a0.getD 2 0) 1152921504606846975)]).toArray) rfl (fun _ => by kernel_rfl) ?_
  refine k_alloc (ints .u64 (List.replicate 4 (0 : Int))) rfl (by kernel_rfl) hp ?_
  intro g5 w hbg5 hp
  refine k_storeA (v := .agg (ints .u64 [a1, (a0.getD 0 0), (a0.getD 1 0), (bits .and .u64 (a0.getD 2 0) 1152921504606846975)]).toArray) 2 0 (r := ⟨g5, 0, ints .u64 (List.replicate 4 (0 : Int))⟩) (ints .u64 [a1, (a0.getD 0 0), (a0.getD 1 0), (bits .and .u64 (a0.getD 2 0) 1152921504606846975)]) (ints .u64 [a1, (a0.getD 0 0), (a0.getD 1 0), (bits .and .u64 (a0.getD 2 0) 1152921504606846975)]) rfl (n := 4) (by kernel_rfl) rfl rfl rfl ((ints_length _ _).trans (rfl : List.length ([a1, (a0.getD 0 0), (a0.getD 1 0), (bits .and .u64 (a0.getD 2 0) 1152921504606846975)] : List Int) = 4)) (ints_one _ _) hp rfl rfl rfl (Nat.le_of_eq ((Nat.zero_add _).trans ((ints_length _ _).trans List.length_replicate).symm)) (setMany_all _ _ (((ints_length _ _).trans (rfl : List.length ([a1, (a0.getD 0 0), (a0.getD 1 0), (bits .and .u64 (a0.getD 2 0) 1152921504606846975)] : List Int) = 4)).trans ((ints_length _ _).trans List.length_replicate).symm)) (by decide) ?_; intro w hp
  refine k_end ?_; intro e38 qe38
  have s4_e38 : e38 4 = .pointer (some ⟨g2, 0, none⟩) := (congrFun qe38 4).trans s4_e37
  have s5_e38 : e38 5 = .int .u64 x3 := (congrFun qe38 5).trans s5_e37
  have s6_e38 : e38 6 = .int .u64 x4 := (congrFun qe38 6).trans s6_e37
  have s7_e38 : e38 7 = .pointer (some ⟨g5, 0, none⟩) := congrFun qe38 7
  clear qe38
  refine wseq rfl ?_
  refine wregion (.tp 0 (.ef 1 (.tp 2 (.tp 3 (.tp 4 (.tp 5 (.tp 6 (.done)))))))) [] rfl (by kernel_rfl) (by kernel_rfl) ?_
  refine k_move (v := .int .u64 x3) rfl s5_e38 ?_
  obtain ⟨r6, qr6, h⟩ := bd_e h
  refine k_call [.int .u64 x3, .int .u64 6346243789798364141] rfl (by kernel_rfl) (args2 rfl rfl) (math_bits_Mul64_ok x3 6346243789798364141  _ (hp.toR (fun r hr => by rw [List.mem_singleton] at hr; subst hr; exact .inr (List.mem_of_getElem? (i := 0) rfl))) qr6) ?_
  rintro _ w' ⟨_, rfl, rfl, hpc⟩
  refine ⟨_, rfl, .inr (.of_below hpc.chg.to_below), ?_⟩; have hp := hp.below hpc.chg.to_below; clear hpc
  refine k_move (v := .tuple #[.int .u64 r6.1, .int .u64 r6.2]) rfl rfl ?_
  refine k_extract (v := .int .u64 r6.1) rfl rfl rfl ?_
  refine k_extract (v := .int .u64 r6.2) rfl rfl rfl ?_
  refine k_assign (v := .int .u64 r6.1) rfl rfl ?_
  refine k_assign (v := .int .u64 r6.2) rfl rfl ?_
  refine k_end ?_; intro e39 qe39
  have s4_e39 : e39 4 = .pointer (some ⟨g2, 0, none⟩) := (congrFun qe39 4).trans s4_e38
  have s5_e39 : e39 5 = .int .u64 x3 := (congrFun qe39 5).trans s5_e38
  have s6_e39 : e39 6 = .int .u64 x4 := (congrFun qe39 6).trans s6_e38
  have s7_e39 : e39 7 = .pointer (some ⟨g5, 0, none⟩) := (congrFun qe39 7).trans s7_e38
  obtain ⟨x7, qx7, h⟩ := lt_e h
  have s8_e39 : e39 8 = .int .u64 x7 := (congrFun qe39 8).trans (congrArg (Value.int .u64) qx7.symm)
  obtain ⟨x8, qx8, h⟩ := lt_e h
  have s9_e39 : e39 9 = .int .u64 x8 := (congrFun qe39 9).trans (congrArg (Value.int .u64) qx8.symm)
  clear qe39
  refine wseq rfl ?_
  refine wregion (.tp 0 (.ef 1 (.tp 2 (.tp 3 (.tp 4 (.tp 5 (.tp 6 (.done)))))))) [] rfl (by kernel_rfl) (by kernel_rfl) ?_
  refine k_move (v := .int .u64 x3) rfl s5_e39 ?_
  obtain ⟨r9, qr9, h⟩ := bd_e h
  refine k_call [.int .u64 x3, .int .u64 1503914060200516822] rfl (by kernel_rfl) (args2 rfl rfl) (math_bits_Mul64_ok x3 1503914060200516822  _ (hp.toR (fun r hr => by rw [List.mem_singleton] at hr; subst hr; exact .inr (List.mem_of_getElem? (i := 0) rfl))) qr9) ?_
  rintro _ w' ⟨_, rfl, rfl, hpc⟩
  refine ⟨_, rfl, .inr (.of_below hpc.chg.to_below), ?_⟩; have hp := hp.below hpc.chg.to_below; clear hpc
  refine k_move (v := .tuple #[.int .u64 r9.1, .int .u64 r9.2]) rfl rfl ?_
  refine k_extract (v := .int .u64 r9.1) rfl rfl rfl ?_
  refine k_extract (v := .int .u64 r9.2) rfl rfl rfl ?_
  refine k_assign (v := .int .u64 r9.1) rfl rfl ?_
  refine k_assign (v := .int .u64 r9.2) rfl rfl ?_
  refine k_end ?_; intro e40 qe40
  have s4_e40 : e40 4 = .pointer (some ⟨g2, 0, none⟩) := (congrFun qe40 4).trans s4_e39
  have s6_e40 : e40 6 = .int .u64 x4 := (congrFun qe40 6).trans s6_e39
  have s7_e40 : e40 7 = .pointer (some ⟨g5, 0, none⟩) := (congrFun qe40 7).trans s7_e39
  have s8_e40 : e40 8 = .int .u64 x7 := (congrFun qe40 8).trans s8_e39
  have s9_e40 : e40 9 = .int .u64 x8 := (congrFun qe40 9).trans s9_e39
  obtain ⟨x10, qx10, h⟩ := lt_e h
  have s10_e40 : e40 10 = .int .u64 x10 := (congrFun qe40 10).trans (congrArg (Value.int .u64) qx10.symm)
  obtain ⟨x11, qx11, h⟩ := lt_e h
  have s11_e40 : e40 11 = .int .u64 x11 := (congrFun qe40 11).trans (congrArg (Value.int .u64) qx11.symm)
  clear qe40
  refine wseq rfl ?_
  refine wregion (.tp 0 (.ef 1 (.tp 2 (.tp 3 (.tp 4 (.tp 5 (.tp 6 (.done)))))))) [] rfl (by kernel_rfl) (by kernel_rfl) ?_
  refine k_move (v := .int .u64 x4) rfl s6_e40 ?_
  obtain ⟨r12, qr12, h⟩ := bd_e h
  refine k_call [.int .u64 x4, .int .u64 6346243789798364141] rfl (by kernel_rfl) (args2 rfl rfl) (math_bits_Mul64_ok x4 6346243789798364141  _ (hp.toR (fun r hr => by rw [List.mem_singleton] at hr; subst hr; exact .inr (List.mem_of_getElem? (i := 0) rfl))) qr12) ?_
  rintro _ w' ⟨_, rfl, rfl, hpc⟩
  refine ⟨_, rfl, .inr (.of_below hpc.chg.to_below), ?_⟩; have hp := hp.below hpc.chg.to_below; clear hpc
  refine k_move (v := .tuple #[.int .u64 r12.1, .int .u64 r12.2]) rfl rfl ?_
  refine k_extract (v := .int .u64 r12.1) rfl rfl rfl ?_
  refine k_extract (v := .int .u64 r12.2) rfl rfl rfl ?_
  refine k_assign (v := .int .u64 r12.1) rfl rfl ?_
  refine k_assign (v := .int .u64 r12.2) rfl rfl ?_
  refine k_end ?_; intro e41 qe41
  have s4_e41 : e41 4 = .pointer (some ⟨g2, 0, none⟩) := (congrFun qe41 4).trans s4_e40
  have s6_e41 : e41 6 = .int .u64 x4 := (congrFun qe41 6).trans s6_e40
  have s7_e41 : e41 7 = .pointer (some ⟨g5, 0, none⟩) := (congrFun qe41 7).trans s7_e40
  have s8_e41 : e41 8 = .int .u64 x7 := (congrFun qe41 8).trans s8_e40
  have s9_e41 : e41 9 = .int .u64 x8 := (congrFun qe41 9).trans s9_e40
  have s10_e41 : e41 10 = .int .u64 x10 := (congrFun qe41 10).trans s10_e40
  have s11_e41 : e41 11 = .int .u64 x11 := (congrFun qe41 11).trans s11_e40
  obtain ⟨x13, qx13, h⟩ := lt_e h
  have s12_e41 : e41 12 = .int .u64 x13 := (congrFun qe41 12).trans (congrArg (Value.int .u64) qx13.symm)
  obtain ⟨x14, qx14, h⟩ := lt_e h
  have s13_e41 : e41 13 = .int .u64 x14 := (congrFun qe41 13).trans (congrArg (Value.int .u64) qx14.symm)
  clear qe41
  refine wseq rfl ?_
  refine wregion (.tp 0 (.ef 1 (.tp 2 (.tp 3 (.tp 4 (.tp 5 (.tp 6 (.done)))))))) [] rfl (by kernel_rfl) (by kernel_rfl) ?_
  refine k_move (v := .int .u64 x4) rfl s6_e41 ?_
  obtain ⟨r15, qr15, h⟩ := bd_e h
  refine k_call [.int .u64 x4, .int .u64 1503914060200516822] rfl (by kernel_rfl) (args2 rfl rfl) (math_bits_Mul64_ok x4 1503914060200516822  _ (hp.toR (fun r hr => by rw [List.mem_singleton] at hr; subst hr; exact .inr (List.mem_of_getElem? (i := 0) rfl))) qr15) ?_
  rintro _ w' ⟨_, rfl, rfl, hpc⟩
  refine ⟨_, rfl, .inr (.of_below hpc.chg.to_below), ?_⟩; have hp := hp.below hpc.chg.to_below; clear hpc
  refine k_move (v := .tuple #[.int .u64 r15.1, .int .u64 r15.2]) rfl rfl ?_
  refine k_extract (v := .int .u64 r15.1) rfl rfl rfl ?_
  refine k_extract (v := .int .u64 r15.2) rfl rfl rfl ?_
  refine k_assign (v := .int .u64 r15.1) rfl rfl ?_
  refine k_assign (v := .int .u64 r15.2) rfl rfl ?_
  refine k_end ?_; intro e42 qe42
  have s4_e42 : e42 4 = .pointer (some ⟨g2, 0, none⟩) := (congrFun qe42 4).trans s4_e41
  have s7_e42 : e42 7 = .pointer (some ⟨g5, 0, none⟩) := (congrFun qe42 7).trans s7_e41
  have s8_e42 : e42 8 = .int .u64 x7 := (congrFun qe42 8).trans s8_e41
  have s9_e42 : e42 9 = .int .u64 x8 := (congrFun qe42 9).trans s9_e41
  have s10_e42 : e42 10 = .int .u64 x10 := (congrFun qe42 10).trans s10_e41
  have s11_e42 : e42 11 = .int .u64 x11 := (congrFun qe42 11).trans s11_e41
  have s12_e42 : e42 12 = .int .u64 x13 := (congrFun qe42 12).trans s12_e41
  have s13_e42 : e42 13 = .int .u64 x14 := (congrFun qe42 13).trans s13_e41
  obtain ⟨x16, qx16, h⟩ := lt_e h
  have s15_e42 : e42 15 = .int .u64 x16 := (congrFun qe42 15).trans (congrArg (Value.int .u64) qx16.symm)
  clear qe42
  refine wseq rfl ?_
  refine wregion (.tp 0 (.tp 1 (.tp 2 (.tp 3 (.ef 4 (.ef 5 (.done))))))) [5] rfl (by kernel_rfl) (by kernel_rfl) ?_
  refine k_move (v := .int .u64 x8) rfl s9_e42 ?_
  refine k_move (v := .int .u64 x7) rfl s8_e42 ?_
  refine k_move (v := .int .u64 x10) rfl s10_e42 ?_
  refine k_build (v := .agg (ints .u64 [x8, x7, x10, 0]).toArray) rfl (fun _ => by kernel_rfl) ?_
  refine k_alloc (ints .u64 (List.replicate 4 (0 : Int))) rfl (by kernel_rfl) hp ?_
  intro g17 w hbg17 hp
  refine k_storeA (v := .agg (ints .u64 [x8, x7, x10, 0]).toArray) 3 0 (r := ⟨g17, 0, ints .u64 (List.replicate 4 (0 : Int))⟩) (ints .u64 [x8, x7, x10, 0]) (ints .u64 [x8, x7, x10, 0]) rfl (n := 4) (by kernel_rfl) rfl rfl rfl ((ints_length _ _).trans (rfl : List.length ([x8, x7, x10, 0] : List Int) = 4)) (ints_one _ _) hp rfl rfl rfl (Nat.le_of_eq ((Nat.zero_add _).trans ((ints_length _ _).trans List.length_replicate).symm)) (setMany_all _ _ (((ints_length _ _).trans (rfl : List.length ([x8, x7, x10, 0] : List Int) = 4)).trans ((ints_length _ _).trans List.length_replicate).symm)) (by decide) ?_; intro w hp
  refine k_end ?_; intro e43 qe43
  have s4_e43 : e43 4 = .pointer (some ⟨g2, 0, none⟩) := (congrFun qe43 4).trans s4_e42
  have s7_e43 : e43 7 = .pointer (some ⟨g5, 0, none⟩) := (congrFun qe43 7).trans s7_e42
  have s11_e43 : e43 11 = .int .u64 x11 := (congrFun qe43 11).trans s11_e42
  have s12_e43 : e43 12 = .int .u64 x13 := (congrFun qe43 12).trans s12_e42
  have s13_e43 : e43 13 = .int .u64 x14 := (congrFun qe43 13).trans s13_e42
  have s15_e43 : e43 15 = .int .u64 x16 := (congrFun qe43 15).trans s15_e42
  have s16_e43 : e43 16 = .pointer (some ⟨g17, 0, none⟩) := congrFun qe43 16
  clear qe43
  refine wseq rfl ?_
  refine wregion (.tk 0 (.tp 1 (.tp 2 (.ef 3 (.ef 4 (.done)))))) [4] rfl (by kernel_rfl) (by kernel_rfl) ?_
  refine k_loadA (n := 4) (xs := ints .u64 [x8, x7, x10, 0]) 0 rfl (by kernel_rfl) (by kernel_rfl) s16_e43 (hp.get (j := 3) rfl) rfl rfl ((ints_length _ _).trans (rfl : List.length ([x8, x7, x10, 0] : List Int) = 4)) (fun m v hm => by rw [Nat.zero_add]; exact hm) ?_
  refine k_move (v := .int .u64 x11) rfl s11_e43 ?_
  refine k_build (v := .agg (ints .u64 [0, x11, 0, 0]).toArray) rfl (fun _ => by kernel_rfl) ?_
  obtain ⟨r18, qr18, h⟩ := bd_e h
  refine k_call [.agg (ints .u64 [x8, x7, x10, 0]).toArray, .agg (ints .u64 [0, x11, 0, 0]).toArray] rfl (by kernel_rfl) (args2 rfl rfl) (scalar_number_add_ok k [x8, x7, x10, 0] [0, x11, 0, 0] (rfl : List.length ([x8, x7, x10, 0] : List Int) = 4) (rfl : List.length ([0, x11, 0, 0] : List Int) = 4) _ (hp.toR (fun r hr => by rw [List.mem_singleton] at hr; subst hr; exact .inr (List.mem_of_getElem? (i := 0) rfl))) qr18) ?_
  rintro _ w' ⟨_, rfl, rfl, lr180, hpc⟩
  refine ⟨_, rfl, .inr (.of_below hpc.chg.to_below), ?_⟩; have hp := hp.below hpc.chg.to_below; clear hpc
  refine k_storeA (v := .agg (ints .u64 r18).toArray) 3 0 (r := ⟨g17, 0, ints .u64 [x8, x7, x10, 0]⟩) (ints .u64 r18) (ints .u64 r18) rfl (n := 4) (by kernel_rfl) s16_e43 rfl rfl ((ints_length _ _).trans lr180) (ints_one _ _) hp rfl rfl rfl (Nat.le_of_eq ((Nat.zero_add _).trans ((ints_length _ _).trans (rfl : List.length ([x8, x7, x10, 0] : List Int) = 4)).symm)) (setMany_all _ _ (((ints_length _ _).trans lr180).trans ((ints_length _ _).trans (rfl : List.length ([x8, x7, x10, 0] : List Int) = 4)).symm)) (by decide) ?_; intro w hp
  refine k_end ?_; intro e44 qe44
  have s4_e44 : e44 4 = .pointer (some ⟨g2, 0, none⟩) := (congrFun qe44 4).trans s4_e43
  have s7_e44 : e44 7 = .pointer (some ⟨g5, 0, none⟩) := (congrFun qe44 7).trans s7_e43
  have s12_e44 : e44 12 = .int .u64 x13 := (congrFun qe44 12).trans s12_e43
  have s13_e44 : e44 13 = .int .u64 x14 := (congrFun qe44 13).trans s13_e43
  have s15_e44 : e44 15 = .int .u64 x16 := (congrFun qe44 15).trans s15_e43
  have s16_e44 : e44 16 = .pointer (some ⟨g17, 0, none⟩) := (congrFun qe44 16).trans s16_e43
  clear qe44
  refine wseq rfl ?_
  refine wregion (.tk 0 (.tp 1 (.tp 2 (.tp 3 (.ef 4 (.ef 5 (.done))))))) [5] rfl (by kernel_rfl) (by kernel_rfl) ?_
  refine k_loadA (n := 4) (xs := ints .u64 r18) 0 rfl (by kernel_rfl) (by kernel_rfl) s16_e44 (hp.get (j := 3) rfl) rfl rfl ((ints_length _ _).trans lr180) (fun m v hm => by rw [Nat.zero_add]; exact hm) ?_
  refine k_move (v := .int .u64 x14) rfl s13_e44 ?_
  refine k_move (v := .int .u64 x13) rfl s12_e44 ?_
  refine k_build (v := .agg (ints .u64 [0, x14, x13, 0]).toArray) rfl (fun _ => by kernel_rfl) ?_
  obtain ⟨r19, qr19, h⟩ := bd_e h
  refine k_call [.agg (ints .u64 r18).toArray, .agg (ints .u64 [0, x14, x13, 0]).toArray] rfl (by kernel_rfl) (args2 rfl rfl) (scalar_number_add_ok k r18 [0, x14, x13, 0] lr180 (rfl : List.length ([0, x14, x13, 0] : List Int) = 4) _ (hp.toR (fun r hr => by rw [List.mem_singleton] at hr; subst hr; exact .inr (List.mem_of_getElem? (i := 0) rfl))) qr19) ?_
  rintro _ w' ⟨_, rfl, rfl, lr190, hpc⟩
  refine ⟨_, rfl, .inr (.of_below hpc.chg.to_below), ?_⟩; have hp := hp.below hpc.chg.to_below; clear hpc
  refine k_storeA (v := .agg (ints .u64 r19).toArray) 3 0 (r := ⟨g17, 0, ints .u64 r18⟩) (ints .u64 r19) (ints .u64 r19) rfl (n := 4) (by kernel_rfl) s16_e44 rfl rfl ((ints_length _ _).trans lr190) (ints_one _ _) hp rfl rfl rfl (Nat.le_of_eq ((Nat.zero_add _).trans ((ints_length _ _).trans lr180).symm)) (setMany_all _ _ (((ints_length _ _).trans lr190).trans ((ints_length _ _).trans lr180).symm)) (by decide) ?_; intro w hp
  refine k_end ?_; intro e45 qe45
  have s4_e45 : e45 4 = .pointer (some ⟨g2, 0, none⟩) := (congrFun qe45 4).trans s4_e44
  have s7_e45 : e45 7 = .pointer (some ⟨g5, 0, none⟩) := (congrFun qe45 7).trans s7_e44
  have s15_e45 : e45 15 = .int .u64 x16 := (congrFun qe45 15).trans s15_e44
  have s16_e45 : e45 16 = .pointer (some ⟨g17, 0, none⟩) := (congrFun qe45 16).trans s16_e44
  clear qe45
  refine wseq rfl ?_
  refine wregion (.tk 0 (.tp 1 (.tp 2 (.ef 3 (.ef 4 (.done)))))) [4] rfl (by kernel_rfl) (by kernel_rfl) ?_
  refine k_loadA (n := 4) (xs := ints .u64 r19) 0 rfl (by kernel_rfl) (by kernel_rfl) s16_e45 (hp.get (j := 3) rfl) rfl rfl ((ints_length _ _).trans lr190) (fun m v hm => by rw [Nat.zero_add]; exact hm) ?_
  refine k_move (v := .int .u64 x16) rfl s15_e45 ?_
  refine k_build (v := .agg (ints .u64 [0, 0, x16, 0]).toArray) rfl (fun _ => by kernel_rfl) ?_
  obtain ⟨r20, qr20, h⟩ := bd_e h
  refine k_call [.agg (ints .u64 r19).toArray, .agg (ints .u64 [0, 0, x16, 0]).toArray] rfl (by kernel_rfl) (args2 rfl rfl) (scalar_number_add_ok k r19 [0, 0, x16, 0] lr190 (rfl : List.length ([0, 0, x16, 0] : List Int) = 4) _ (hp.toR (fun r hr => by rw [List.mem_singleton] at hr; subst hr; exact .inr (List.mem_of_getElem? (i := 0) rfl))) qr20) ?_
  rintro _ w' ⟨_, rfl, rfl, lr200, hpc⟩
  refine ⟨_, rfl, .inr (.of_below hpc.chg.to_below), ?_⟩; have hp := hp.below hpc.chg.to_below; clear hpc
  refine k_storeA (v := .agg (ints .u64 r20).toArray) 3 0 (r := ⟨g17, 0, ints .u64 r19⟩) (ints .u64 r20) (ints .u64 r20) rfl (n := 4) (by kernel_rfl) s16_e45 rfl rfl ((ints_length _ _).trans lr200) (ints_one _ _) hp rfl rfl rfl (Nat.le_of_eq ((Nat.zero_add _).trans ((ints_length _ _).trans lr190).symm)) (setMany_all _ _ (((ints_length _ _).trans lr200).trans ((ints_length _ _).trans lr190).symm)) (by decide) ?_; intro w hp
  refine k_end ?_; intro e46 qe46
  have s4_e46 : e46 4 = .pointer (some ⟨g2, 0, none⟩) := (congrFun qe46 4).trans s4_e45
  have s7_e46 : e46 7 = .pointer (some ⟨g5, 0, none⟩) := (congrFun qe46 7).trans s7_e45
  have s16_e46 : e46 16 = .pointer (some ⟨g17, 0, none⟩) := (congrFun qe46 16).trans s16_e45
  clear qe46
  refine wseq rfl ?_
  refine wregion (.tk 0 (.tk 1 (.ef 2 (.tp 3 (.tp 4 (.tp 5 (.ef 6 (.ef 7 (.tp 8 (.done)))))))))) [7] rfl (by kernel_rfl) (by kernel_rfl) ?_
  refine k_loadA (n := 4) (xs := ints .u64 [a1, (a0.getD 0 0), (a0.getD 1 0), (bits .and .u64 (a0.getD 2 0) 1152921504606846975)]) 0 rfl (by kernel_rfl) (by kernel_rfl) s7_e46 (hp.get (j := 2) rfl) rfl rfl ((ints_length _ _).trans (rfl : List.length ([a1, (a0.getD 0 0), (a0.getD 1 0), (bits .and .u64 (a0.getD 2 0) 1152921504606846975)] : List Int) = 4)) (fun m v hm => by rw [Nat.zero_add]; exact hm) ?_
  refine k_loadA (n := 4) (xs := ints .u64 r20) 0 rfl (by kernel_rfl) (by kernel_rfl) s16_e46 (hp.get (j := 3) rfl) rfl rfl ((ints_length _ _).trans lr200) (fun m v hm => by rw [Nat.zero_add]; exact hm) ?_
  obtain ⟨r21, qr21, h⟩ := bd_e h
  refine k_call [.agg (ints .u64 [a1, (a0.getD 0 0), (a0.getD 1 0), (bits .and .u64 (a0.getD 2 0) 1152921504606846975)]).toArray, .agg (ints .u64 r20).toArray] rfl (by kernel_rfl) (args2 rfl rfl) (scalar_number_sub_ok k [a1, (a0.getD 0 0), (a0.getD 1 0), (bits .and .u64 (a0.getD 2 0) 1152921504606846975)] r20 (rfl : List.length ([a1, (a0.getD 0 0), (a0.getD 1 0), (bits .and .u64 (a0.getD 2 0) 1152921504606846975)] : List Int) = 4) lr200 _ (hp.toR (fun r hr => by rw [List.mem_singleton] at hr; subst hr; exact .inr (List.mem_of_getElem? (i := 0) rfl))) qr21) ?_
  rintro _ w' ⟨_, rfl, rfl, lr210, hpc⟩
  refine ⟨_, rfl, .inr (.of_below hpc.chg.to_below), ?_⟩; have hp := hp.below hpc.chg.to_below; clear hpc
  refine k_move (v := .tuple #[.agg (ints .u64 r21.1).toArray, .int .u64 r21.2]) rfl rfl ?_
  refine k_extract (v := .agg (ints .u64 r21.1).toArray) rfl rfl rfl ?_
  refine k_extract (v := .int .u64 r21.2) rfl rfl rfl ?_
  refine k_alloc (ints .u64 (List.replicate 4 (0 : Int))) rfl (by kernel_rfl) hp ?_
  intro g22 w hbg22 hp
  refine k_storeA (v := .agg (ints .u64 r21.1).toArray) 4 0 (r := ⟨g22, 0, ints .u64 (List.replicate 4 (0 : Int))⟩) (ints .u64 r21.1) (ints .u64 r21.1) rfl (n := 4) (by kernel_rfl) rfl rfl rfl ((ints_length _ _).trans lr210) (ints_one _ _) hp rfl rfl rfl (Nat.le_of_eq ((Nat.zero_add _).trans ((ints_length _ _).trans List.length_replicate).symm)) (setMany_all _ _ (((ints_length _ _).trans lr210).trans ((ints_length _ _).trans List.length_replicate).symm)) (by decide) ?_; intro w hp
  refine k_assign (v := .int .u64 r21.2) rfl rfl ?_
  refine k_end ?_; intro e47 qe47
  have s4_e47 : e47 4 = .pointer (some ⟨g2, 0, none⟩) := (congrFun qe47 4).trans s4_e46
  have s17_e47 : e47 17 = .pointer (some ⟨g22, 0, none⟩) := congrFun qe47 17
  obtain ⟨x23, qx23, h⟩ := lt_e h
  have s18_e47 : e47 18 = .int .u64 x23 := (congrFun qe47 18).trans (congrArg (Value.int .u64) qx23.symm)
  clear qe47
  refine wseq rfl ?_
  refine wseq rfl ?_
  refine wregion (.tp 0 (.tp 1 (.done))) [] rfl (by kernel_rfl) (by kernel_rfl) ?_
  refine k_move (v := .int .u64 x23) rfl s18_e47 ?_
  refine k_bin (X := .int .u64 x23) (Y := .int .u64 0) rfl rfl rfl rfl ?_
  refine k_end ?_; intro e48 qe48
  have s4_e48 : e48 4 = .pointer (some ⟨g2, 0, none⟩) := (congrFun qe48 4).trans s4_e47
  have s17_e48 : e48 17 = .pointer (some ⟨g22, 0, none⟩) := (congrFun qe48 17).trans s17_e47
  have s82_e48 : e48 82 = .bool (x23 != 0) := congrFun qe48 82
  clear qe48
  obtain ⟨r25, qr25, h⟩ := bd_e h
  refine scalar_number_shift.p1_ok k g1 g17 g2 g22 g5 x23 a0 a1 r20 r21 la0 lr200 lr210 ?hq0 e48 _ s4_e48 s17_e48 s82_e48 hp qr25
  case hq0 =>
    intro e50 w m26 lm26 s4_e50 s17_e50 hp qq
    rw [qq] at h; clear qq
    refine wseq rfl ?_
    refine wregion (.tk 0 (.ef 1 (.ef 2 (.done)))) [2] rfl (by kernel_rfl) (by kernel_rfl) ?_
    refine k_loadA (n := 4) (xs := ints .u64 m26) 0 rfl (by kernel_rfl) (by kernel_rfl) s17_e50 (hp.get (j := 4) rfl) rfl rfl ((ints_length _ _).trans lm26) (fun m v hm => by rw [Nat.zero_add]; exact hm) ?_
    obtain ⟨r27, qr27, h⟩ := bd_e h
    refine k_call [.agg (ints .u64 m26).toArray] rfl (by kernel_rfl) (args1 rfl) (scalar_number_less_ok k m26 lm26 _ (hp.toR (fun r hr => by rw [List.mem_singleton] at hr; subst hr; exact .inr (List.mem_of_getElem? (i := 0) rfl))) qr27) ?_
    rintro _ w' ⟨_, rfl, rfl, lr270, hpc⟩
    refine ⟨_, rfl, .inr (.of_below hpc.chg.to_below), ?_⟩; have hp := hp.below hpc.chg.to_below; clear hpc
    refine k_storeA (v := .agg (ints .u64 r27).toArray) 1 0 (r := ⟨g2, 0, ints .u64 (List.replicate 4 (0 : Int))⟩) (ints .u64 r27) (ints .u64 r27) rfl (n := 4) (by kernel_rfl) s4_e50 rfl rfl ((ints_length _ _).trans lr270) (ints_one _ _) hp rfl rfl rfl (Nat.le_of_eq ((Nat.zero_add _).trans ((ints_length _ _).trans List.length_replicate).symm)) (setMany_all _ _ (((ints_length _ _).trans lr270).trans ((ints_length _ _).trans List.length_replicate).symm)) (by decide) ?_; intro w hp
    refine k_end ?_; intro e51 qe51
    have s4_e51 : e51 4 = .pointer (some ⟨g2, 0, none⟩) := (congrFun qe51 4).trans s4_e50
    clear qe51
    refine wret rfl ?_
    have hr : r = r27 := (Option.some.inj h).symm
    show RetP _ _ _ _ _
    rw [hr]
    exact ret_i [.agg (ints .u64 r27).toArray] (res_cell s4_e51 (loadVar_agg (by kernel_rfl) (by kernel_rfl) ((ints_length _ _).trans lr270) (hp.get (j := 1) rfl) rfl rfl rfl) res_nil) ⟨rfl, lr270, hp.none⟩
/-! 18 postilion/scalar.reduce -/
theorem scalar_reduce.p2_ok {w0 : World} {Ws : List Wr} {Q : Exit → Env → World → Prop} (b0 c0 g1 g2 o0 : Nat) (a0 : List Int) (y5 : Int) (y4 : List Int) (l_y4 : y4.length = 4) {r : Int} (hQ0 : ∀ (e' : Env) (w' : World) (z0 : Int), e' 0 = .slice (some ⟨b0, o0, none⟩) a0.length c0 → e' 2 = .pointer (some ⟨g1, 0, none⟩) → e' 3 = .pointer (some ⟨g2, 0, none⟩) → e' 4 = .int .i64 y5 → e' 5 = .int .u64 z0 → Hp w0 Ws w' [⟨g1, 0, ints .u64 (List.replicate 4 (0 : Int))⟩, ⟨g2, 0, ints .u64 y4⟩] [⟨0, 0, ints .u64 [6346243789798364141, 1503914060200516822, 0, 1152921504606846976]⟩, ⟨b0, o0, ints .u8 a0⟩] → r = (z0) → Q (.exit 2) e' w') : ∀ (k : Nat), ∀ (y6 : Int) (y7 : Int) (e : Env) (w : World)  (s0_e : e 0 = .slice (some ⟨b0, o0, none⟩) a0.length c0) (s2_e : e 2 = .pointer (some ⟨g1, 0, none⟩)) (s3_e : e 3 = .pointer (some ⟨g2, 0, none⟩)) (s4_e : e 4 = .int .i64 y5) (s5_e : e 5 = .int .u64 y6) (s6_e : e 6 = .int .i64 y7) (hp : Hp w0 Ws w [⟨g1, 0, ints .u64 (List.replicate 4 (0 : Int))⟩, ⟨g2, 0, ints .u64 y4⟩] [⟨0, 0, ints .u64 [6346243789798364141, 1503914060200516822, 0, 1152921504606846976]⟩, ⟨b0, o0, ints .u8 a0⟩]) (h : scalar_reduce.p2 k a0 y5 y6 y7 = some r), Lp Tryd.prog Tryd.f18.ntmps (at_ (fbody Tryd.f18) [1, 1, 0, 1, 0, 0, 1, 0, 0, 1, 0, 1, 0, 0]) Q k e w := by
  intro k
  induction k with
  | zero => intro y6 y7 e w  s0_e s2_e s3_e s4_e s5_e s6_e hp h; cases h
  | succ k ih =>
    intro y6 y7 e w  s0_e s2_e s3_e s4_e s5_e s6_e hp h
    unfold scalar_reduce.p2 at h
    show Wp _ _ _ _ _ _
    refine wseq rfl ?_
    refine wseq rfl ?_
    refine wregion (.tp 0 (.tp 1 (.done))) [] rfl (by kernel_rfl) (by kernel_rfl) ?_
    refine k_move (v := .int .i64 y7) rfl s6_e ?_
    refine k_bin (X := .int .i64 y7) (Y := .int .i64 0) rfl rfl rfl rfl ?_
    refine k_end ?_; intro e58 qe58
    have s0_e58 : e58 0 = .slice (some ⟨b0, o0, none⟩) a0.length c0 := (congrFun qe58 0).trans s0_e
    have s2_e58 : e58 2 = .pointer (some ⟨g1, 0, none⟩) := (congrFun qe58 2).trans s2_e
    have s3_e58 : e58 3 = .pointer (some ⟨g2, 0, none⟩) := (congrFun qe58 3).trans s3_e
    have s4_e58 : e58 4 = .int .i64 y5 := (congrFun qe58 4).trans s4_e
    have s5_e58 : e58 5 = .int .u64 y6 := (congrFun qe58 5).trans s5_e
    have s6_e58 : e58 6 = .int .i64 y7 := (congrFun qe58 6).trans s6_e
    have s15_e58 : e58 15 = .bool (decide (y7 ≥ 0)) := congrFun qe58 15
    clear qe58
    refine wcond (t := (decide (y7 ≥ 0))) rfl (by decide) s15_e58 (fun hb => ?_) (fun hb => ?_)
    · replace h := br_t hb h
      refine wskip rfl ?_
      refine wseq rfl ?_
      refine wblock rfl ?_
      refine wregion (.tp 0 (.tp 1 (.tp 2 (.tp 3 (.tp 4 (.tp 5 (.tp 6 (.tk 7 (.tp 8 (.tp 9 (.tp 10 (.done)))))))))))) [] rfl (by kernel_rfl) (by kernel_rfl) ?_
      refine k_move (v := .int .u64 y6) rfl s5_e58 ?_
      refine k_shl (a := y6) (b := 8) rfl rfl rfl (by decide) ?_
      refine k_move (v := .slice (some ⟨b0, o0, none⟩) a0.length c0) rfl s0_e58 ?_
      refine k_move (v := .int .i64 y5) rfl s4_e58 ?_
      refine k_move (v := .int .i64 y7) rfl s6_e58 ?_
      refine k_bin (X := .int .i64 y5) (Y := .int .i64 y7) rfl rfl rfl rfl ?_
      obtain ⟨c8, h⟩ := chk_e h
      refine k_indexS (s := 1) (j := (IntKind.i64.wrap (y5 + y7))) rfl Tryd.underlying37 (by kernel_rfl) rfl rfl c8 ?_
      refine k_load (j := ((IntKind.i64.wrap (y5 + y7)) : Int).toNat) (v := .int .u8 (a0.getD ((IntKind.i64.wrap (y5 + y7)) : Int).toNat 0)) rfl (by kernel_rfl) rfl (hp.getR (j := 1) rfl) rfl (show o0 + ((IntKind.i64.wrap (y5 + y7)) : Int).toNat * 1 = o0 + ((IntKind.i64.wrap (y5 + y7)) : Int).toNat by omega) (ints_get (idx_lt c8 rfl)) ?_
      refine k_conv (k := .u64) (k' := .u8) (n := (a0.getD ((IntKind.i64.wrap (y5 + y7)) : Int).toNat 0)) rfl Tryd.underlying5 Tryd.underlying33 rfl ?_
      refine k_bin (X := .int .u64 (IntKind.u64.wrap (y6 * 2 ^ 8))) (Y := .int .u64 (IntKind.u64.wrap (a0.getD ((IntKind.i64.wrap (y5 + y7)) : Int).toNat 0))) rfl rfl rfl rfl ?_
      refine k_assign (v := .int .u64 (bits .or .u64 (IntKind.u64.wrap (y6 * 2 ^ 8)) (IntKind.u64.wrap (a0.getD ((IntKind.i64.wrap (y5 + y7)) : Int).toNat 0)))) rfl rfl ?_
      refine k_end ?_; intro e59 qe59
      have s0_e59 : e59 0 = .slice (some ⟨b0, o0, none⟩) a0.length c0 := (congrFun qe59 0).trans s0_e58
      have s2_e59 : e59 2 = .pointer (some ⟨g1, 0, none⟩) := (congrFun qe59 2).trans s2_e58
      have s3_e59 : e59 3 = .pointer (some ⟨g2, 0, none⟩) := (congrFun qe59 3).trans s3_e58
      have s4_e59 : e59 4 = .int .i64 y5 := (congrFun qe59 4).trans s4_e58
      obtain ⟨x9, qx9, h⟩ := lt_e h
      have s5_e59 : e59 5 = .int .u64 x9 := (congrFun qe59 5).trans (congrArg (Value.int .u64) qx9.symm)
      have s6_e59 : e59 6 = .int .i64 y7 := (congrFun qe59 6).trans s6_e58
      clear qe59
      refine wregion (.tp 0 (.tp 1 (.tp 2 (.done)))) [] rfl (by kernel_rfl) (by kernel_rfl) ?_
      refine k_move (v := .int .i64 y7) rfl s6_e59 ?_
      refine k_bin (X := .int .i64 y7) (Y := .int .i64 1) rfl rfl rfl rfl ?_
      refine k_assign (v := .int .i64 (IntKind.i64.wrap (y7 - 1))) rfl rfl ?_
      refine k_end ?_; intro e60 qe60
      have s0_e60 : e60 0 = .slice (some ⟨b0, o0, none⟩) a0.length c0 := (congrFun qe60 0).trans s0_e59
      have s2_e60 : e60 2 = .pointer (some ⟨g1, 0, none⟩) := (congrFun qe60 2).trans s2_e59
      have s3_e60 : e60 3 = .pointer (some ⟨g2, 0, none⟩) := (congrFun qe60 3).trans s3_e59
      have s4_e60 : e60 4 = .int .i64 y5 := (congrFun qe60 4).trans s4_e59
      have s5_e60 : e60 5 = .int .u64 x9 := (congrFun qe60 5).trans s5_e59
      obtain ⟨x10, qx10, h⟩ := lt_e h
      have s6_e60 : e60 6 = .int .i64 x10 := (congrFun qe60 6).trans (congrArg (Value.int .i64) qx10.symm)
      clear qe60
      exact ih x9 x10 _ _  s0_e60 s2_e60 s3_e60 s4_e60 s5_e60 s6_e60 (hp.drop (L' := [⟨g1, 0, ints .u64 (List.replicate 4 (0 : Int))⟩, ⟨g2, 0, ints .u64 y4⟩]) (List.Sublist.refl _)) h
    · replace h := br_f hb h
      refine wexit rfl ?_
      exact hQ0 _ _ y6  s0_e58 s2_e58 s3_e58 s4_e58 s5_e58 (hp.drop (L' := [⟨g1, 0, ints .u64 (List.replicate 4 (0 : Int))⟩, ⟨g2, 0, ints .u64 y4⟩]) (List.Sublist.refl _)) (Option.some.inj h).symm
theorem scalar_reduce.p1_ok {w0 : World} {Ws : List Wr} {Q : Exit → Env → World → Prop} (b0 c0 g1 g2 o0 : Nat) (a0 : List Int)  {r : List Int} (hQ0 : ∀ (e' : Env) (w' : World) (z0 : List Int), z0.length = 4 → e' 2 = .pointer (some ⟨g1, 0, none⟩) → e' 3 = .pointer (some ⟨g2, 0, none⟩) → Hp w0 Ws w' [⟨g1, 0, ints .u64 (List.replicate 4 (0 : Int))⟩, ⟨g2, 0, ints .u64 z0⟩] [⟨0, 0, ints .u64 [6346243789798364141, 1503914060200516822, 0, 1152921504606846976]⟩, ⟨b0, o0, ints .u8 a0⟩] → r = (z0) → Q (.exit 0) e' w') : ∀ (k : Nat), ∀ (y4 : List Int) (y5 : Int) (e : Env) (w : World) (ly4 : y4.length = 4) (s0_e : e 0 = .slice (some ⟨b0, o0, none⟩) a0.length c0) (s2_e : e 2 = .pointer (some ⟨g1, 0, none⟩)) (s3_e : e 3 = .pointer (some ⟨g2, 0, none⟩)) (s4_e : e 4 = .int .i64 y5) (hp : Hp w0 Ws w [⟨g1, 0, ints .u64 (List.replicate 4 (0 : Int))⟩, ⟨g2, 0, ints .u64 y4⟩] [⟨0, 0, ints .u64 [6346243789798364141, 1503914060200516822, 0, 1152921504606846976]⟩, ⟨b0, o0, ints .u8 a0⟩]) (h : scalar_reduce.p1 k a0 y4 y5 = some r), Lp Tryd.prog Tryd.f18.ntmps (at_ (fbody Tryd.f18) [1, 1, 0, 1, 0, 0]) Q k e w := by
  intro k
  induction k with
  | zero => intro y4 y5 e w ly4 s0_e s2_e s3_e s4_e hp h; cases h
  | succ k ih =>
    intro y4 y5 e w ly4 s0_e s2_e s3_e s4_e hp h
    unfold scalar_reduce.p1 at h
    show Wp _ _ _ _ _ _
    refine wseq rfl ?_
    refine wseq rfl ?_
    refine wregion (.tp 0 (.tp 1 (.done))) [] rfl (by kernel_rfl) (by kernel_rfl) ?_
    refine k_move (v := .int .i64 y5) rfl s4_e ?_
    refine k_bin (X := .int .i64 y5) (Y := .int .i64 0) rfl rfl rfl rfl ?_
    refine k_end ?_; intro e55 qe55
    have s0_e55 : e55 0 = .slice (some ⟨b0, o0, none⟩) a0.length c0 := (congrFun qe55 0).trans s0_e
    have s2_e55 : e55 2 = .pointer (some ⟨g1, 0, none⟩) := (congrFun qe55 2).trans s2_e
    have s3_e55 : e55 3 = .pointer (some ⟨g2, 0, none⟩) := (congrFun qe55 3).trans s3_e
    have s4_e55 : e55 4 = .int .i64 y5 := (congrFun qe55 4).trans s4_e
    have s11_e55 : e55 11 = .bool (decide (y5 ≥ 0)) := congrFun qe55 11
    clear qe55
    refine wcond (t := (decide (y5 ≥ 0))) rfl (by decide) s11_e55 (fun hb => ?_) (fun hb => ?_)
    · replace h := br_t hb h
      refine wskip rfl ?_
      refine wseq rfl ?_
      refine wblock rfl ?_
      refine wseq rfl ?_
      refine wregion (.tp 0 (.done)) [] rfl (by kernel_rfl) (by kernel_rfl) ?_
      refine k_assign (v := .int .u64 0) rfl rfl ?_
      refine k_end ?_; intro e56 qe56
      have s0_e56 : e56 0 = .slice (some ⟨b0, o0, none⟩) a0.length c0 := (congrFun qe56 0).trans s0_e55
      have s2_e56 : e56 2 = .pointer (some ⟨g1, 0, none⟩) := (congrFun qe56 2).trans s2_e55
      have s3_e56 : e56 3 = .pointer (some ⟨g2, 0, none⟩) := (congrFun qe56 3).trans s3_e55
      have s4_e56 : e56 4 = .int .i64 y5 := (congrFun qe56 4).trans s4_e55
      have s5_e56 : e56 5 = .int .u64 0 := congrFun qe56 5
      clear qe56
      refine wseq rfl ?_
      refine wseq rfl ?_
      refine wregion (.tp 0 (.done)) [] rfl (by kernel_rfl) (by kernel_rfl) ?_
      refine k_assign (v := .int .i64 7) rfl rfl ?_
      refine k_end ?_; intro e57 qe57
      have s0_e57 : e57 0 = .slice (some ⟨b0, o0, none⟩) a0.length c0 := (congrFun qe57 0).trans s0_e56
      have s2_e57 : e57 2 = .pointer (some ⟨g1, 0, none⟩) := (congrFun qe57 2).trans s2_e56
      have s3_e57 : e57 3 = .pointer (some ⟨g2, 0, none⟩) := (congrFun qe57 3).trans s3_e56
      have s4_e57 : e57 4 = .int .i64 y5 := (congrFun qe57 4).trans s4_e56
      have s5_e57 : e57 5 = .int .u64 0 := (congrFun qe57 5).trans s5_e56
      have s6_e57 : e57 6 = .int .i64 7 := congrFun qe57 6
      clear qe57
      refine wblock rfl ?_
      obtain ⟨r11, qr11, h⟩ := bd_e h
      refine wloop k rfl (scalar_reduce.p2_ok b0 c0 g1 g2 o0 a0 y5 y4 ly4 ?hq0 k 0 7 e57 _  s0_e57 s2_e57 s3_e57 s4_e57 s5_e57 s6_e57 hp qr11)
      case hq0 =>
        intro e61 w m12  s0_e61 s2_e61 s3_e61 s4_e61 s5_e61 hp qq
        rw [qq] at h; clear qq
        refine wregion (.tk 0 (.tp 1 (.ef 2 (.ef 3 (.done))))) [3] rfl (by kernel_rfl) (by kernel_rfl) ?_
        refine k_loadA (n := 4) (xs := ints .u64 y4) 0 rfl (by kernel_rfl) (by kernel_rfl) s3_e61 (hp.get (j := 1) rfl) rfl rfl ((ints_length _ _).trans ly4) (fun m v hm => by rw [Nat.zero_add]; exact hm) ?_
        refine k_move (v := .int .u64 m12) rfl s5_e61 ?_
        obtain ⟨r13, qr13, h⟩ := bd_e h
        refine k_call [.agg (ints .u64 y4).toArray, .int .u64 m12] rfl (by kernel_rfl) (args2 rfl rfl) (scalar_number_shift_ok k y4 m12 ly4 _ (hp.toR (fun r hr => by rw [List.mem_singleton] at hr; subst hr; exact .inr (List.mem_of_getElem? (i := 0) rfl))) qr13) ?_
        rintro _ w' ⟨_, rfl, rfl, lr130, hpc⟩
        refine ⟨_, rfl, .inr (.of_below hpc.chg.to_below), ?_⟩; have hp := hp.below hpc.chg.to_below; clear hpc
        refine k_storeA (v := .agg (ints .u64 r13).toArray) 1 0 (r := ⟨g2, 0, ints .u64 y4⟩) (ints .u64 r13) (ints .u64 r13) rfl (n := 4) (by kernel_rfl) s3_e61 rfl rfl ((ints_length _ _).trans lr130) (ints_one _ _) hp rfl rfl rfl (Nat.le_of_eq ((Nat.zero_add _).trans ((ints_length _ _).trans ly4).symm)) (setMany_all _ _ (((ints_length _ _).trans lr130).trans ((ints_length _ _).trans ly4).symm)) (by decide) ?_; intro w hp
        refine k_end ?_; intro e62 qe62
        have s0_e62 : e62 0 = .slice (some ⟨b0, o0, none⟩) a0.length c0 := (congrFun qe62 0).trans s0_e61
        have s2_e62 : e62 2 = .pointer (some ⟨g1, 0, none⟩) := (congrFun qe62 2).trans s2_e61
        have s3_e62 : e62 3 = .pointer (some ⟨g2, 0, none⟩) := (congrFun qe62 3).trans s3_e61
        have s4_e62 : e62 4 = .int .i64 y5 := (congrFun qe62 4).trans s4_e61
        clear qe62
        refine wregion (.tp 0 (.tp 1 (.tp 2 (.done)))) [] rfl (by kernel_rfl) (by kernel_rfl) ?_
        refine k_move (v := .int .i64 y5) rfl s4_e62 ?_
        refine k_bin (X := .int .i64 y5) (Y := .int .i64 8) rfl rfl rfl rfl ?_
        refine k_assign (v := .int .i64 (IntKind.i64.wrap (y5 - 8))) rfl rfl ?_
        refine k_end ?_; intro e63 qe63
        have s0_e63 : e63 0 = .slice (some ⟨b0, o0, none⟩) a0.length c0 := (congrFun qe63 0).trans s0_e62
        have s2_e63 : e63 2 = .pointer (some ⟨g1, 0, none⟩) := (congrFun qe63 2).trans s2_e62
        have s3_e63 : e63 3 = .pointer (some ⟨g2, 0, none⟩) := (congrFun qe63 3).trans s3_e62
        obtain ⟨x14, qx14, h⟩ := lt_e h
        have s4_e63 : e63 4 = .int .i64 x14 := (congrFun qe63 4).trans (congrArg (Value.int .i64) qx14.symm)
        clear qe63
        exact ih r13 x14 _ _ lr130 s0_e63 s2_e63 s3_e63 s4_e63 (hp.drop (L' := [⟨g1, 0, ints .u64 (List.replicate 4 (0 : Int))⟩, ⟨g2, 0, ints .u64 r13⟩]) (List.Sublist.refl _)) h
    · replace h := br_f hb h
      refine wexit rfl ?_
      exact hQ0 _ _ y4 ly4 s2_e55 s3_e55 (hp.drop (L' := [⟨g1, 0, ints .u64 (List.replicate 4 (0 : Int))⟩, ⟨g2, 0, ints .u64 y4⟩]) (List.Sublist.refl _)) (Option.some.inj h).symm
theorem scalar_reduce_ok (k : Nat) (a0 : List Int) (b0 o0 c0 : Nat) (w0 : World) (hp : Hp w0 [] w0 [] [⟨0, 0, ints .u64 [6346243789798364141, 1503914060200516822, 0, 1152921504606846976]⟩, ⟨b0, o0, ints .u8 a0⟩]) {r : List Int} (h : scalar_reduce.f k a0 = some r) :
    Calls Tryd.prog 18 [.slice (some ⟨b0, o0, none⟩) a0.length c0].toArray w0 fun x w' => ∃ v, x = .returned v ∧ v = .agg (ints .u64 r).toArray ∧ r.length = 4 ∧ Hp w0 [] w' [] [⟨0, 0, ints .u64 [6346243789798364141, 1503914060200516822, 0, 1152921504606846976]⟩, ⟨b0, o0, ints .u8 a0⟩] := by
  refine calls_in Tryd.func18 rfl (Nat.le_of_ble_eq_true (by kernel_rfl)) (by kernel_rfl) ?_
  intro e0 qe0
  have s0_e0 : e0 0 = .slice (some ⟨b0, o0, none⟩) a0.length c0 := congrFun qe0 0
  clear qe0
  unfold scalar_reduce.f at h
  refine wseq rfl ?_
  refine wregion (.ef 0 (.done)) [] rfl (by kernel_rfl) (by kernel_rfl) ?_
  refine k_alloc (ints .u64 (List.replicate 4 (0 : Int))) rfl (by kernel_rfl) hp ?_
  intro g1 w hbg1 hp
  refine k_end ?_; intro e52 qe52
  have s0_e52 : e52 0 = .slice (some ⟨b0, o0, none⟩) a0.length c0 := (congrFun qe52 0).trans s0_e0
  have s2_e52 : e52 2 = .pointer (some ⟨g1, 0, none⟩) := congrFun qe52 2
  clear qe52
  refine wseq rfl ?_
  refine wregion (.ef 0 (.done)) [] rfl (by kernel_rfl) (by kernel_rfl) ?_
  refine k_alloc (ints .u64 (List.replicate 4 (0 : Int))) rfl (by kernel_rfl) hp ?_
  intro g2 w hbg2 hp
  refine k_end ?_; intro e53 qe53
  have s0_e53 : e53 0 = .slice (some ⟨b0, o0, none⟩) a0.length c0 := (congrFun qe53 0).trans s0_e52
  have s2_e53 : e53 2 = .pointer (some ⟨g1, 0, none⟩) := (congrFun qe53 2).trans s2_e52
  have s3_e53 : e53 3 = .pointer (some ⟨g2, 0, none⟩) := congrFun qe53 3
  clear qe53
  refine wseq rfl ?_
  refine wseq rfl ?_
  refine wregion (.tp 0 (.tp 1 (.tp 2 (.tp 3 (.done))))) [] rfl (by kernel_rfl) (by kernel_rfl) ?_
  refine k_move (v := .slice (some ⟨b0, o0, none⟩) a0.length c0) rfl s0_e53 ?_
  refine k_len rfl Tryd.underlying37 rfl ?_
  refine k_bin (X := .int .i64 ((a0.length : Nat) : Int)) (Y := .int .i64 8) rfl rfl rfl rfl ?_
  refine k_assign (v := .int .i64 (IntKind.i64.wrap (((a0.length : Nat) : Int) - 8))) rfl rfl ?_
  refine k_end ?_; intro e54 qe54
  have s0_e54 : e54 0 = .slice (some ⟨b0, o0, none⟩) a0.length c0 := (congrFun qe54 0).trans s0_e53
  have s2_e54 : e54 2 = .pointer (some ⟨g1, 0, none⟩) := (congrFun qe54 2).trans s2_e53
  have s3_e54 : e54 3 = .pointer (some ⟨g2, 0, none⟩) := (congrFun qe54 3).trans s3_e53
  obtain ⟨x3, qx3, h⟩ := lt_e h
  have s4_e54 : e54 4 = .int .i64 x3 := (congrFun qe54 4).trans (congrArg (Value.int .i64) qx3.symm)
  clear qe54
  refine wblock rfl ?_
  obtain ⟨r15, qr15, h⟩ := bd_e h
  refine wloop k rfl (scalar_reduce.p1_ok b0 c0 g1 g2 o0 a0  ?hq0 k (List.replicate 4 (0 : Int)) x3 e54 _ List.length_replicate s0_e54 s2_e54 s3_e54 s4_e54 hp qr15)
  case hq0 =>
    intro e64 w m16 lm16 s2_e64 s3_e64 hp qq
    rw [qq] at h; clear qq
    refine wseq rfl ?_
    refine wregion (.tk 0 (.ef 1 (.done))) [1] rfl (by kernel_rfl) (by kernel_rfl) ?_
    refine k_loadA (n := 4) (xs := ints .u64 m16) 0 rfl (by kernel_rfl) (by kernel_rfl) s3_e64 (hp.get (j := 1) rfl) rfl rfl ((ints_length _ _).trans lm16) (fun m v hm => by rw [Nat.zero_add]; exact hm) ?_
    refine k_storeA (v := .agg (ints .u64 m16).toArray) 0 0 (r := ⟨g1, 0, ints .u64 (List.replicate 4 (0 : Int))⟩) (ints .u64 m16) (ints .u64 m16) rfl (n := 4) (by kernel_rfl) s2_e64 rfl rfl ((ints_length _ _).trans lm16) (ints_one _ _) hp rfl rfl rfl (Nat.le_of_eq ((Nat.zero_add _).trans ((ints_length _ _).trans List.length_replicate).symm)) (setMany_all _ _ (((ints_length _ _).trans lm16).trans ((ints_length _ _).trans List.length_replicate).symm)) (by decide) ?_; intro w hp
    refine k_end ?_; intro e65 qe65
    have s2_e65 : e65 2 = .pointer (some ⟨g1, 0, none⟩) := (congrFun qe65 2).trans s2_e64
    clear qe65
    refine wret rfl ?_
    have hr : r = m16 := (Option.some.inj h).symm
    show RetP _ _ _ _ _
    rw [hr]
    exact ret_i [.agg (ints .u64 m16).toArray] (res_cell s2_e65 (loadVar_agg (by kernel_rfl) (by kernel_rfl) ((ints_length _ _).trans lm16) (hp.get (j := 0) rfl) rfl rfl rfl) res_nil) ⟨rfl, lm16, hp.none⟩
/-! 19 (postilion/scalar.number).bytes -/
theorem scalar_number_bytes.p1_ok {w0 : World} {Ws : List Wr} {Q : Exit → Env → World → Prop} (g1 g2 g3 : Nat) (a0 : List Int) (l_a0 : a0.length = 4) {r : List Int} (hQ0 : ∀ (e' : Env) (w' : World) (z0 : List Int), z0.length = 32 → e' 2 = .pointer (some ⟨g2, 0, none⟩) → e' 3 = .pointer (some ⟨g3, 0, none⟩) → Hp w0 Ws w' [⟨g1, 0, ints .u64 a0⟩, ⟨g2, 0, ints .u8 (List.replicate 32 (0 : Int))⟩, ⟨g3, 0, ints .u8 z0⟩] [⟨0, 0, ints .u64 [6346243789798364141, 1503914060200516822, 0, 1152921504606846976]⟩] → r = (z0) → Q (.exit 0) e' w') : ∀ (k : Nat), ∀ (y4 : List Int) (y5 : Int) (e : Env) (w : World) (ly4 : y4.length = 32) (s1_e : e 1 = .pointer (some ⟨g1, 0, none⟩)) (s2_e : e 2 = .pointer (some ⟨g2, 0, none⟩)) (s3_e : e 3 = .pointer (some ⟨g3, 0, none⟩)) (s5_e : e 5 = .int .i64 y5) (hp : Hp w0 Ws w [⟨g1, 0, ints .u64 a0⟩, ⟨g2, 0, ints .u8 (List.replicate 32 (0 : Int))⟩, ⟨g3, 0, ints .u8 y4⟩] [⟨0, 0, ints .u64 [6346243789798364141, 1503914060200516822, 0, 1152921504606846976]⟩]) (h : scalar_number_bytes.p1 k a0 y4 y5 = some r), Lp Tryd.prog Tryd.f19.ntmps (at_ (fbody Tryd.f19) [1, 1, 0, 1, 0, 0]) Q k e w := by
  intro k
  induction k with
  | zero => intro y4 y5 e w ly4 s1_e s2_e s3_e s5_e hp h; cases h
  | succ k ih =>
    intro y4 y5 e w ly4 s1_e s2_e s3_e s5_e hp h
    unfold scalar_number_bytes.p1 at h
    show Wp _ _ _ _ _ _
    refine wseq rfl ?_
    refine wregion (.tp 0 (.done)) [] rfl (by kernel_rfl) (by kernel_rfl) ?_
    refine k_bin (X := .int .i64 y5) (Y := .int .i64 32) rfl s5_e rfl rfl ?_
    refine k_end ?_; intro e69 qe69
    have s1_e69 : e69 1 = .pointer (some ⟨g1, 0, none⟩) := (congrFun qe69 1).trans s1_e
    have s2_e69 : e69 2 = .pointer (some ⟨g2, 0, none⟩) := (congrFun qe69 2).trans s2_e
    have s3_e69 : e69 3 = .pointer (some ⟨g3, 0, none⟩) := (congrFun qe69 3).trans s3_e
    have s5_e69 : e69 5 = .int .i64 y5 := (congrFun qe69 5).trans s5_e
    have s6_e69 : e69 6 = .bool (decide (y5 < 32)) := congrFun qe69 6
    clear qe69
    refine wseq rfl ?_
    refine wcond (t := (decide (y5 < 32))) rfl (by decide) s6_e69 (fun hb => ?_) (fun hb => ?_)
    · replace h := br_t hb h
      refine wskip rfl ?_
      refine wseq rfl ?_
      refine wblock rfl ?_
      refine wseq rfl ?_
      refine wregion (.tp 0 (.tp 1 (.done))) [] rfl (by kernel_rfl) (by kernel_rfl) ?_
      refine k_move (v := .int .i64 y5) rfl s5_e69 ?_
      refine k_assign (v := .int .i64 y5) rfl rfl ?_
      refine k_end ?_; intro e70 qe70
      have s1_e70 : e70 1 = .pointer (some ⟨g1, 0, none⟩) := (congrFun qe70 1).trans s1_e69
      have s2_e70 : e70 2 = .pointer (some ⟨g2, 0, none⟩) := (congrFun qe70 2).trans s2_e69
      have s3_e70 : e70 3 = .pointer (some ⟨g3, 0, none⟩) := (congrFun qe70 3).trans s3_e69
      have s4_e70 : e70 4 = .int .i64 y5 := congrFun qe70 4
      have s5_e70 : e70 5 = .int .i64 y5 := (congrFun qe70 5).trans s5_e69
      clear qe70
      refine wregion (.tp 0 (.tp 1 (.tp 2 (.tp 3 (.tk 4 (.tp 5 (.tp 6 (.tp 7 (.tp 8 (.tp 9 (.tp 10 (.ef 11 (.done))))))))))))) [11] rfl (by kernel_rfl) (by kernel_rfl) ?_
      refine k_move (v := .int .i64 y5) rfl s4_e70 ?_
      refine k_move (v := .int .i64 y5) rfl s4_e70 ?_
      refine k_quo (a := y5) (b := 8) rfl rfl rfl (by decide) ?_
      obtain ⟨c6, h⟩ := chk_e h
      refine k_indexA (n := 4) (s := 1) (j := (IntKind.i64.wrap (Int.tdiv y5 8))) rfl Tryd.underlying35 (by kernel_rfl) s1_e70 rfl c6 ?_
      refine k_load (j := ((IntKind.i64.wrap (Int.tdiv y5 8)) : Int).toNat) (v := .int .u64 (a0.getD ((IntKind.i64.wrap (Int.tdiv y5 8)) : Int).toNat 0)) rfl (by kernel_rfl) rfl (hp.get (j := 0) rfl) rfl (show 0 + ((IntKind.i64.wrap (Int.tdiv y5 8)) : Int).toNat * 1 = 0 + ((IntKind.i64.wrap (Int.tdiv y5 8)) : Int).toNat by omega) (ints_get (idx_lt c6 l_a0)) ?_
      refine k_move (v := .int .i64 y5) rfl s4_e70 ?_
      refine k_rem (a := y5) (b := 8) rfl rfl rfl (by decide) ?_
      refine k_bin (X := .int .i64 8) (Y := .int .i64 (Int.tmod y5 8)) rfl rfl rfl rfl ?_
      obtain ⟨c7, h⟩ := chk_e h
      refine k_shr (a := (a0.getD ((IntKind.i64.wrap (Int.tdiv y5 8)) : Int).toNat 0)) (b := (IntKind.i64.wrap (8 * (Int.tmod y5 8)))) rfl rfl rfl c7 ?_
      refine k_conv (k := .u8) (k' := .u64) (n := (Int.fdiv (a0.getD ((IntKind.i64.wrap (Int.tdiv y5 8)) : Int).toNat 0) (2 ^ (min ((IntKind.i64.wrap (8 * (Int.tmod y5 8))) : Int).toNat (IntKind.u64).bits)))) rfl Tryd.underlying33 Tryd.underlying5 rfl ?_
      obtain ⟨c8, h⟩ := chk_e h
      refine k_indexA (n := 32) (s := 1) (j := y5) rfl Tryd.underlying22 (by kernel_rfl) s3_e70 rfl c8 ?_
      refine k_store (v := .int .u8 (IntKind.u8.wrap (Int.fdiv (a0.getD ((IntKind.i64.wrap (Int.tdiv y5 8)) : Int).toNat 0) (2 ^ (min ((IntKind.i64.wrap (8 * (Int.tmod y5 8))) : Int).toNat (IntKind.u64).bits))))) 2 (y5 : Int).toNat (r := ⟨g3, 0, ints .u8 y4⟩) rfl (by kernel_rfl) rfl rfl rfl hp rfl rfl (show 0 + (y5 : Int).toNat * 1 = 0 + (y5 : Int).toNat by omega) (Nat.lt_of_lt_of_eq (idx_lt c8 ly4) (ints_length _ _).symm) (by decide) ?_; intro w hp; rw [ints_set] at hp
      refine k_end ?_; intro e71 qe71
      have s1_e71 : e71 1 = .pointer (some ⟨g1, 0, none⟩) := (congrFun qe71 1).trans s1_e70
      have s2_e71 : e71 2 = .pointer (some ⟨g2, 0, none⟩) := (congrFun qe71 2).trans s2_e70
      have s3_e71 : e71 3 = .pointer (some ⟨g3, 0, none⟩) := (congrFun qe71 3).trans s3_e70
      have s5_e71 : e71 5 = .int .i64 y5 := (congrFun qe71 5).trans s5_e70
      clear qe71
      refine wregion (.tp 0 (.tp 1 (.done))) [] rfl (by kernel_rfl) (by kernel_rfl) ?_
      refine k_bin (X := .int .i64 y5) (Y := .int .i64 1) rfl s5_e71 rfl rfl ?_
      refine k_move (v := .int .i64 (IntKind.i64.wrap (y5 + 1))) rfl rfl ?_
      refine k_end ?_; intro e72 qe72
      have s1_e72 : e72 1 = .pointer (some ⟨g1, 0, none⟩) := (congrFun qe72 1).trans s1_e71
      have s2_e72 : e72 2 = .pointer (some ⟨g2, 0, none⟩) := (congrFun qe72 2).trans s2_e71
      have s3_e72 : e72 3 = .pointer (some ⟨g3, 0, none⟩) := (congrFun qe72 3).trans s3_e71
      obtain ⟨x9, qx9, h⟩ := lt_e h
      have s5_e72 : e72 5 = .int .i64 x9 := (congrFun qe72 5).trans (congrArg (Value.int .i64) qx9.symm)
      clear qe72
      exact ih (y4.set (y5 : Int).toNat (IntKind.u8.wrap (Int.fdiv (a0.getD ((IntKind.i64.wrap (Int.tdiv y5 8)) : Int).toNat 0) (2 ^ (min ((IntKind.i64.wrap (8 * (Int.tmod y5 8))) : Int).toNat (IntKind.u64).bits))))) x9 _ _ (List.length_set.trans ly4) s1_e72 s2_e72 s3_e72 s5_e72 (hp.drop (L' := [⟨g1, 0, ints .u64 a0⟩, ⟨g2, 0, ints .u8 (List.replicate 32 (0 : Int))⟩, ⟨g3, 0, ints .u8 (y4.set (y5 : Int).toNat (IntKind.u8.wrap (Int.fdiv (a0.getD ((IntKind.i64.wrap (Int.tdiv y5 8)) : Int).toNat 0) (2 ^ (min ((IntKind.i64.wrap (8 * (Int.tmod y5 8))) : Int).toNat (IntKind.u64).bits)))))⟩]) (List.Sublist.refl _)) h
    · replace h := br_f hb h
      refine wexit rfl ?_
      exact hQ0 _ _ y4 ly4 s2_e69 s3_e69 (hp.drop (L' := [⟨g1, 0, ints .u64 a0⟩, ⟨g2, 0, ints .u8 (List.replicate 32 (0 : Int))⟩, ⟨g3, 0, ints .u8 y4⟩]) (List.Sublist.refl _)) (Option.some.inj h).symm
theorem scalar_number_bytes_ok (k : Nat) (a0 : List Int) (la0 : a0.length = 4) (w0 : World) (hp : Hp w0 [] w0 [] [⟨0, 0, ints .u64 [6346243789798364141, 1503914060200516822, 0, 1152921504606846976]⟩]) {r : List Int} (h : scalar_number_bytes.f k a0 = some r) :
    Calls Tryd.prog 19 [.agg (ints .u64 a0).toArray].toArray w0 fun x w' => ∃ v, x = .returned v ∧ v = .agg (ints .u8 r).toArray ∧ r.length = 32 ∧ Hp w0 [] w' [] [⟨0, 0, ints .u64 [6346243789798364141, 1503914060200516822, 0, 1152921504606846976]⟩] := by
  refine calls_in Tryd.func19 rfl (Nat.le_of_ble_eq_true (by kernel_rfl)) (by kernel_rfl) ?_
  intro e0 qe0
  have s0_e0 : e0 0 = .agg (ints .u64 a0).toArray := congrFun qe0 0
  clear qe0
  unfold scalar_number_bytes.f at h
  refine wseq rfl ?_
  refine wregion (.ef 0 (.ef 1 (.done))) [] rfl (by kernel_rfl) (by kernel_rfl) ?_
  refine k_box (v := .agg (ints .u64 a0).toArray) (ints .u64 a0) rfl s0_e0 rfl hp ?_
  intro g1 w hbg1 hp
  refine k_alloc (ints .u8 (List.replicate 32 (0 : Int))) rfl (by kernel_rfl) hp ?_
  intro g2 w hbg2 hp
  refine k_end ?_; intro e66 qe66
  have s1_e66 : e66 1 = .pointer (some ⟨g1, 0, none⟩) := congrFun qe66 1
  have s2_e66 : e66 2 = .pointer (some ⟨g2, 0, none⟩) := congrFun qe66 2
  clear qe66
  refine wseq rfl ?_
  refine wregion (.ef 0 (.done)) [] rfl (by kernel_rfl) (by kernel_rfl) ?_
  refine k_alloc (ints .u8 (List.replicate 32 (0 : Int))) rfl (by kernel_rfl) hp ?_
  intro g3 w hbg3 hp
  refine k_end ?_; intro e67 qe67
  have s1_e67 : e67 1 = .pointer (some ⟨g1, 0, none⟩) := (congrFun qe67 1).trans s1_e66
  have s2_e67 : e67 2 = .pointer (some ⟨g2, 0, none⟩) := (congrFun qe67 2).trans s2_e66
  have s3_e67 : e67 3 = .pointer (some ⟨g3, 0, none⟩) := congrFun qe67 3
  clear qe67
  refine wseq rfl ?_
  refine wseq rfl ?_
  refine wregion (.tp 0 (.done)) [] rfl (by kernel_rfl) (by kernel_rfl) ?_
  refine k_move (v := .int .i64 0) rfl rfl ?_
  refine k_end ?_; intro e68 qe68
  have s1_e68 : e68 1 = .pointer (some ⟨g1, 0, none⟩) := (congrFun qe68 1).trans s1_e67
  have s2_e68 : e68 2 = .pointer (some ⟨g2, 0, none⟩) := (congrFun qe68 2).trans s2_e67
  have s3_e68 : e68 3 = .pointer (some ⟨g3, 0, none⟩) := (congrFun qe68 3).trans s3_e67
  have s5_e68 : e68 5 = .int .i64 0 := congrFun qe68 5
  clear qe68
  refine wblock rfl ?_
  obtain ⟨r10, qr10, h⟩ := bd_e h
  refine wloop k rfl (scalar_number_bytes.p1_ok g1 g2 g3 a0 la0 ?hq0 k (List.replicate 32 (0 : Int)) 0 e68 _ List.length_replicate s1_e68 s2_e68 s3_e68 s5_e68 hp qr10)
  case hq0 =>
    intro e73 w m11 lm11 s2_e73 s3_e73 hp qq
    rw [qq] at h; clear qq
    refine wseq rfl ?_
    refine wregion (.tk 0 (.ef 1 (.done))) [1] rfl (by kernel_rfl) (by kernel_rfl) ?_
    refine k_loadA (n := 32) (xs := ints .u8 m11) 0 rfl (by kernel_rfl) (by kernel_rfl) s3_e73 (hp.get (j := 2) rfl) rfl rfl ((ints_length _ _).trans lm11) (fun m v hm => by rw [Nat.zero_add]; exact hm) ?_
    refine k_storeA (v := .agg (ints .u8 m11).toArray) 1 0 (r := ⟨g2, 0, ints .u8 (List.replicate 32 (0 : Int))⟩) (ints .u8 m11) (ints .u8 m11) rfl (n := 32) (by kernel_rfl) s2_e73 rfl rfl ((ints_length _ _).trans lm11) (ints_one _ _) hp rfl rfl rfl (Nat.le_of_eq ((Nat.zero_add _).trans ((ints_length _ _).trans List.length_replicate).symm)) (setMany_all _ _ (((ints_length _ _).trans lm11).trans ((ints_length _ _).trans List.length_replicate).symm)) (by decide) ?_; intro w hp
    refine k_end ?_; intro e74 qe74
    have s2_e74 : e74 2 = .pointer (some ⟨g2, 0, none⟩) := (congrFun qe74 2).trans s2_e73
    clear qe74
    refine wret rfl ?_
    have hr : r = m11 := (Option.some.inj h).symm
    show RetP _ _ _ _ _
    rw [hr]
    exact ret_i [.agg (ints .u8 m11).toArray] (res_cell s2_e74 (loadVar_agg (by kernel_rfl) (by kernel_rfl) ((ints_length _ _).trans lm11) (hp.get (j := 1) rfl) rfl rfl rfl) res_nil) ⟨rfl, lm11, hp.none⟩
/-! 9 postilion/scalar.MulAdd -/
theorem scalar_MulAdd.p2_ok {w0 : World} {Ws : List Wr} {Q : Exit → Env → World → Prop} (g1 g2 g3 g4 g7 g8 g9 : Nat) (y11 : Int) (a0 : List Int) (a1 : List Int) (a2 : List Int) (r5 : List Int) (r6 : List Int) (l_a0 : a0.length = 32) (l_a1 : a1.length = 32) (l_a2 : a2.length = 32) (l_r5 : r5.length = 4) (l_r6 : r6.length = 4) {r : Int × List Int} (hQ0 : ∀ (e' : Env) (w' : World) (z0 : Int) (z1 : List Int), z1.length = 8 → e' 5 = .pointer (some ⟨g3, 0, none⟩) → e' 6 = .pointer (some ⟨g4, 0, none⟩) → e' 7 = .pointer (some ⟨g7, 0, none⟩) → e' 8 = .pointer (some ⟨g8, 0, none⟩) → e' 9 = .pointer (some ⟨g9, 0, none⟩) → e' 10 = .int .i64 y11 → e' 11 = .int .u64 z0 → e' 23 = .int .i64 y11 → Hp w0 Ws w' [⟨g1, 0, ints .u8 a0⟩, ⟨g2, 0, ints .u8 a1⟩, ⟨g3, 0, ints .u8 a2⟩, ⟨g4, 0, ints .u8 (List.replicate 32 (0 : Int))⟩, ⟨g7, 0, ints .u64 r5⟩, ⟨g8, 0, ints .u64 r6⟩, ⟨g9, 0, ints .u64 z1⟩] [⟨0, 0, ints .u64 [6346243789798364141, 1503914060200516822, 0, 1152921504606846976]⟩] → r = (z0, z1) → Q (.exit 2) e' w') : ∀ (k : Nat), ∀ (y12 : List Int) (y13 : Int) (y14 : Int) (e : Env) (w : World) (ly12 : y12.length = 8) (s5_e : e 5 = .pointer (some ⟨g3, 0, none⟩)) (s6_e : e 6 = .pointer (some ⟨g4, 0, none⟩)) (s7_e : e 7 = .pointer (some ⟨g7, 0, none⟩)) (s8_e : e 8 = .pointer (some ⟨g8, 0, none⟩)) (s9_e : e 9 = .pointer (some ⟨g9, 0, none⟩)) (s10_e : e 10 = .int .i64 y11) (s11_e : e 11 = .int .u64 y13) (s23_e : e 23 = .int .i64 y11) (s26_e : e 26 = .int .i64 y14) (hp : Hp w0 Ws w [⟨g1, 0, ints .u8 a0⟩, ⟨g2, 0, ints .u8 a1⟩, ⟨g3, 0, ints .u8 a2⟩, ⟨g4, 0, ints .u8 (List.replicate 32 (0 : Int))⟩, ⟨g7, 0, ints .u64 r5⟩, ⟨g8, 0, ints .u64 r6⟩, ⟨g9, 0, ints .u64 y12⟩] [⟨0, 0, ints .u64 [6346243789798364141, 1503914060200516822, 0, 1152921504606846976]⟩]) (h : scalar_MulAdd.p2 k y11 r5 r6 y12 y13 y14 = some r), Lp Tryd.prog Tryd.f9.ntmps (at_ (fbody Tryd.f9) [1, 1, 1, 0, 1, 0, 0, 1, 1, 0, 0, 1, 1, 0, 1, 0, 0]) Q k e w := by
  intro k
  induction k with
  | zero => intro y12 y13 y14 e w ly12 s5_e s6_e s7_e s8_e s9_e s10_e s11_e s23_e s26_e hp h; cases h
  | succ k ih =>
    intro y12 y13 y14 e w ly12 s5_e s6_e s7_e s8_e s9_e s10_e s11_e s23_e s26_e hp h
    unfold scalar_MulAdd.p2 at h
    show Wp _ _ _ _ _ _
    refine wseq rfl ?_
    refine wregion (.tp 0 (.done)) [] rfl (by kernel_rfl) (by kernel_rfl) ?_
    refine k_bin (X := .int .i64 y14) (Y := .int .i64 4) rfl s26_e rfl rfl ?_
    refine k_end ?_; intro e83 qe83
    have s5_e83 : e83 5 = .pointer (some ⟨g3, 0, none⟩) := (congrFun qe83 5).trans s5_e
    have s6_e83 : e83 6 = .pointer (some ⟨g4, 0, none⟩) := (congrFun qe83 6).trans s6_e
    have s7_e83 : e83 7 = .pointer (some ⟨g7, 0, none⟩) := (congrFun qe83 7).trans s7_e
    have s8_e83 : e83 8 = .pointer (some ⟨g8, 0, none⟩) := (congrFun qe83 8).trans s8_e
    have s9_e83 : e83 9 = .pointer (some ⟨g9, 0, none⟩) := (congrFun qe83 9).trans s9_e
    have s10_e83 : e83 10 = .int .i64 y11 := (congrFun qe83 10).trans s10_e
    have s11_e83 : e83 11 = .int .u64 y13 := (congrFun qe83 11).trans s11_e
    have s23_e83 : e83 23 = .int .i64 y11 := (congrFun qe83 23).trans s23_e
    have s26_e83 : e83 26 = .int .i64 y14 := (congrFun qe83 26).trans s26_e
    have s27_e83 : e83 27 = .bool (decide (y14 < 4)) := congrFun qe83 27
    clear qe83
    refine wseq rfl ?_
    refine wcond (t := (decide (y14 < 4))) rfl (by decide) s27_e83 (fun hb => ?_) (fun hb => ?_)
    · replace h := br_t hb h
      refine wskip rfl ?_
      refine wseq rfl ?_
      refine wblock rfl ?_
      refine wseq rfl ?_
      refine wregion (.tp 0 (.tp 1 (.done))) [] rfl (by kernel_rfl) (by kernel_rfl) ?_
      refine k_move (v := .int .i64 y14) rfl s26_e83 ?_
      refine k_assign (v := .int .i64 y14) rfl rfl ?_
      refine k_end ?_; intro e84 qe84
      have s5_e84 : e84 5 = .pointer (some ⟨g3, 0, none⟩) := (congrFun qe84 5).trans s5_e83
      have s6_e84 : e84 6 = .pointer (some ⟨g4, 0, none⟩) := (congrFun qe84 6).trans s6_e83
      have s7_e84 : e84 7 = .pointer (some ⟨g7, 0, none⟩) := (congrFun qe84 7).trans s7_e83
      have s8_e84 : e84 8 = .pointer (some ⟨g8, 0, none⟩) := (congrFun qe84 8).trans s8_e83
      have s9_e84 : e84 9 = .pointer (some ⟨g9, 0, none⟩) := (congrFun qe84 9).trans s9_e83
      have s10_e84 : e84 10 = .int .i64 y11 := (congrFun qe84 10).trans s10_e83
      have s11_e84 : e84 11 = .int .u64 y13 := (congrFun qe84 11).trans s11_e83
      have s12_e84 : e84 12 = .int .i64 y14 := congrFun qe84 12
      have s23_e84 : e84 23 = .int .i64 y11 := (congrFun qe84 23).trans s23_e83
      have s26_e84 : e84 26 = .int .i64 y14 := (congrFun qe84 26).trans s26_e83
      clear qe84
      refine wseq rfl ?_
      refine wregion_d (.tp 0 (.tp 1 (.tk 2 (.tp 3 (.tp 4 (.tk 5 (.ef 6 (.tp 7 (.tp 8 (.tp 9 (.tp 10 (.tp 11 (.done))))))))))))) [] rfl (by kernel_rfl) (by kernel_rfl) (Nat.le_of_ble_eq_true (by kernel_rfl)) (by kernel_rfl) ?_
      have hp := hp.drew
      refine k_move (v := .int .i64 y11) rfl s10_e84 ?_
      obtain ⟨c15, h⟩ := chk_e h
      refine k_indexA (n := 4) (s := 1) (j := y11) rfl Tryd.underlying35 (by kernel_rfl) s7_e84 rfl c15 ?_
      refine k_load (j := (y11 : Int).toNat) (v := .int .u64 (r5.getD (y11 : Int).toNat 0)) rfl (by kernel_rfl) rfl (hp.get (j := 4) rfl) rfl (show 0 + (y11 : Int).toNat * 1 = 0 + (y11 : Int).toNat by omega) (ints_get (idx_lt c15 l_r5)) ?_
      refine k_move (v := .int .i64 y14) rfl s12_e84 ?_
      obtain ⟨c16, h⟩ := chk_e h
      refine k_indexA (n := 4) (s := 1) (j := y14) rfl Tryd.underlying35 (by kernel_rfl) s8_e84 rfl c16 ?_
      refine k_load (j := (y14 : Int).toNat) (v := .int .u64 (r6.getD (y14 : Int).toNat 0)) rfl (by kernel_rfl) rfl (hp.get (j := 5) rfl) rfl (show 0 + (y14 : Int).toNat * 1 = 0 + (y14 : Int).toNat by omega) (ints_get (idx_lt c16 l_r6)) ?_
      obtain ⟨r17, qr17, h⟩ := bd_e h
      refine k_call [.int .u64 (r5.getD (y11 : Int).toNat 0), .int .u64 (r6.getD (y14 : Int).toNat 0)] rfl (by kernel_rfl) (args2 rfl rfl) (math_bits_Mul64_ok (r5.getD (y11 : Int).toNat 0) (r6.getD (y14 : Int).toNat 0)  _ (hp.toR (fun r hr => by rw [List.mem_singleton] at hr; subst hr; exact .inr (List.mem_of_getElem? (i := 0) rfl))) qr17) ?_
      rintro _ w' ⟨_, rfl, rfl, hpc⟩
      refine ⟨_, rfl, .inr (.of_below hpc.chg.to_below), ?_⟩; have hp := hp.below hpc.chg.to_below; clear hpc
      refine k_move (v := .tuple #[.int .u64 r17.1, .int .u64 r17.2]) rfl rfl ?_
      refine k_extract (v := .int .u64 r17.1) rfl rfl rfl ?_
      refine k_extract (v := .int .u64 r17.2) rfl rfl rfl ?_
      refine k_assign (v := .int .u64 r17.1) rfl rfl ?_
      refine k_assign (v := .int .u64 r17.2) rfl rfl ?_
      refine k_end ?_; intro e85 qe85
      have s5_e85 : e85 5 = .pointer (some ⟨g3, 0, none⟩) := (congrFun qe85 5).trans s5_e84
      have s6_e85 : e85 6 = .pointer (some ⟨g4, 0, none⟩) := (congrFun qe85 6).trans s6_e84
      have s7_e85 : e85 7 = .pointer (some ⟨g7, 0, none⟩) := (congrFun qe85 7).trans s7_e84
      have s8_e85 : e85 8 = .pointer (some ⟨g8, 0, none⟩) := (congrFun qe85 8).trans s8_e84
      have s9_e85 : e85 9 = .pointer (some ⟨g9, 0, none⟩) := (congrFun qe85 9).trans s9_e84
      have s10_e85 : e85 10 = .int .i64 y11 := (congrFun qe85 10).trans s10_e84
      have s11_e85 : e85 11 = .int .u64 y13 := (congrFun qe85 11).trans s11_e84
      have s12_e85 : e85 12 = .int .i64 y14 := (congrFun qe85 12).trans s12_e84
      obtain ⟨x18, qx18, h⟩ := lt_e h
      have s13_e85 : e85 13 = .int .u64 x18 := (congrFun qe85 13).trans (congrArg (Value.int .u64) qx18.symm)
      obtain ⟨x19, qx19, h⟩ := lt_e h
      have s14_e85 : e85 14 = .int .u64 x19 := (congrFun qe85 14).trans (congrArg (Value.int .u64) qx19.symm)
      have s23_e85 : e85 23 = .int .i64 y11 := (congrFun qe85 23).trans s23_e84
      have s26_e85 : e85 26 = .int .i64 y14 := (congrFun qe85 26).trans s26_e84
      clear qe85
      refine wseq rfl ?_
      refine wregion (.tp 0 (.tp 1 (.done))) [] rfl (by kernel_rfl) (by kernel_rfl) ?_
      refine k_assign (v := .int .u64 0) rfl rfl ?_
      refine k_assign (v := .int .u64 0) rfl rfl ?_
      refine k_end ?_; intro e86 qe86
      have s5_e86 : e86 5 = .pointer (some ⟨g3, 0, none⟩) := (congrFun qe86 5).trans s5_e85
      have s6_e86 : e86 6 = .pointer (some ⟨g4, 0, none⟩) := (congrFun qe86 6).trans s6_e85
      have s7_e86 : e86 7 = .pointer (some ⟨g7, 0, none⟩) := (congrFun qe86 7).trans s7_e85
      have s8_e86 : e86 8 = .pointer (some ⟨g8, 0, none⟩) := (congrFun qe86 8).trans s8_e85
      have s9_e86 : e86 9 = .pointer (some ⟨g9, 0, none⟩) := (congrFun qe86 9).trans s9_e85
      have s10_e86 : e86 10 = .int .i64 y11 := (congrFun qe86 10).trans s10_e85
      have s11_e86 : e86 11 = .int .u64 y13 := (congrFun qe86 11).trans s11_e85
      have s12_e86 : e86 12 = .int .i64 y14 := (congrFun qe86 12).trans s12_e85
      have s13_e86 : e86 13 = .int .u64 x18 := (congrFun qe86 13).trans s13_e85
      have s14_e86 : e86 14 = .int .u64 x19 := (congrFun qe86 14).trans s14_e85
      have s23_e86 : e86 23 = .int .i64 y11 := (congrFun qe86 23).trans s23_e85
      have s26_e86 : e86 26 = .int .i64 y14 := (congrFun qe86 26).trans s26_e85
      clear qe86
      refine wseq rfl ?_
      refine wregion (.tp 0 (.tp 1 (.tp 2 (.tp 3 (.tp 4 (.tk 5 (.tp 6 (.tp 7 (.tp 8 (.tp 9 (.tp 10 (.tp 11 (.done))))))))))))) [] rfl (by kernel_rfl) (by kernel_rfl) ?_
      refine k_move (v := .int .u64 x19) rfl s14_e86 ?_
      refine k_move (v := .int .i64 y11) rfl s10_e86 ?_
      refine k_move (v := .int .i64 y14) rfl s12_e86 ?_
      refine k_bin (X := .int .i64 y11) (Y := .int .i64 y14) rfl rfl rfl rfl ?_
      obtain ⟨c20, h⟩ := chk_e h
      refine k_indexA (n := 8) (s := 1) (j := (IntKind.i64.wrap (y11 + y14))) rfl Tryd.underlying39 (by kernel_rfl) s9_e86 rfl c20 ?_
      refine k_load (j := ((IntKind.i64.wrap (y11 + y14)) : Int).toNat) (v := .int .u64 (y12.getD ((IntKind.i64.wrap (y11 + y14)) : Int).toNat 0)) rfl (by kernel_rfl) rfl (hp.get (j := 6) rfl) rfl (show 0 + ((IntKind.i64.wrap (y11 + y14)) : Int).toNat * 1 = 0 + ((IntKind.i64.wrap (y11 + y14)) : Int).toNat by omega) (ints_get (idx_lt c20 ly12)) ?_
      obtain ⟨c21, h⟩ := chk_e h
      refine k_ext [.int .u64 x19, .int .u64 (y12.getD ((IntKind.i64.wrap (y11 + y14)) : Int).toNat 0), .int .u64 0] rfl ext21 (args3 rfl rfl rfl) (fun w' => run_add64 x19 (y12.getD ((IntKind.i64.wrap (y11 + y14)) : Int).toNat 0) 0 c21.1 c21.2.1 c21.2.2.1 c21.2.2.2 w') ?_
      refine k_move (v := .tuple #[.int .u64 ((x19 + (y12.getD ((IntKind.i64.wrap (y11 + y14)) : Int).toNat 0) + 0) % 18446744073709551616), .int .u64 ((x19 + (y12.getD ((IntKind.i64.wrap (y11 + y14)) : Int).toNat 0) + 0) / 18446744073709551616)]) rfl rfl ?_
      refine k_extract (v := .int .u64 ((x19 + (y12.getD ((IntKind.i64.wrap (y11 + y14)) : Int).toNat 0) + 0) % 18446744073709551616)) rfl rfl rfl ?_
      refine k_extract (v := .int .u64 ((x19 + (y12.getD ((IntKind.i64.wrap (y11 + y14)) : Int).toNat 0) + 0) / 18446744073709551616)) rfl rfl rfl ?_
      refine k_assign (v := .int .u64 ((x19 + (y12.getD ((IntKind.i64.wrap (y11 + y14)) : Int).toNat 0) + 0) % 18446744073709551616)) rfl rfl ?_
      refine k_assign (v := .int .u64 ((x19 + (y12.getD ((IntKind.i64.wrap (y11 + y14)) : Int).toNat 0) + 0) / 18446744073709551616)) rfl rfl ?_
      refine k_end ?_; intro e87 qe87
      have s5_e87 : e87 5 = .pointer (some ⟨g3, 0, none⟩) := (congrFun qe87 5).trans s5_e86
      have s6_e87 : e87 6 = .pointer (some ⟨g4, 0, none⟩) := (congrFun qe87 6).trans s6_e86
      have s7_e87 : e87 7 = .pointer (some ⟨g7, 0, none⟩) := (congrFun qe87 7).trans s7_e86
      have s8_e87 : e87 8 = .pointer (some ⟨g8, 0, none⟩) := (congrFun qe87 8).trans s8_e86
      have s9_e87 : e87 9 = .pointer (some ⟨g9, 0, none⟩) := (congrFun qe87 9).trans s9_e86
      have s10_e87 : e87 10 = .int .i64 y11 := (congrFun qe87 10).trans s10_e86
      have s11_e87 : e87 11 = .int .u64 y13 := (congrFun qe87 11).trans s11_e86
      have s12_e87 : e87 12 = .int .i64 y14 := (congrFun qe87 12).trans s12_e86
      have s13_e87 : e87 13 = .int .u64 x18 := (congrFun qe87 13).trans s13_e86
      obtain ⟨x22, qx22, h⟩ := lt_e h
      have s14_e87 : e87 14 = .int .u64 x22 := (congrFun qe87 14).trans (congrArg (Value.int .u64) qx22.symm)
      obtain ⟨x23, qx23, h⟩ := lt_e h
      have s15_e87 : e87 15 = .int .u64 x23 := (congrFun qe87 15).trans (congrArg (Value.int .u64) qx23.symm)
      have s23_e87 : e87 23 = .int .i64 y11 := (congrFun qe87 23).trans s23_e86
      have s26_e87 : e87 26 = .int .i64 y14 := (congrFun qe87 26).trans s26_e86
      clear qe87
      refine wseq rfl ?_
      refine wregion (.tp 0 (.tp 1 (.tp 2 (.tp 3 (.tp 4 (.tp 5 (.tp 6 (.tp 7 (.done))))))))) [] rfl (by kernel_rfl) (by kernel_rfl) ?_
      refine k_move (v := .int .u64 x22) rfl s14_e87 ?_
      refine k_move (v := .int .u64 y13) rfl s11_e87 ?_
      obtain ⟨c24, h⟩ := chk_e h
      refine k_ext [.int .u64 x22, .int .u64 y13, .int .u64 0] rfl ext21 (args3 rfl rfl rfl) (fun w' => run_add64 x22 y13 0 c24.1 c24.2.1 c24.2.2.1 c24.2.2.2 w') ?_
      refine k_move (v := .tuple #[.int .u64 ((x22 + y13 + 0) % 18446744073709551616), .int .u64 ((x22 + y13 + 0) / 18446744073709551616)]) rfl rfl ?_
      refine k_extract (v := .int .u64 ((x22 + y13 + 0) % 18446744073709551616)) rfl rfl rfl ?_
      refine k_extract (v := .int .u64 ((x22 + y13 + 0) / 18446744073709551616)) rfl rfl rfl ?_
      refine k_assign (v := .int .u64 ((x22 + y13 + 0) % 18446744073709551616)) rfl rfl ?_
      refine k_assign (v := .int .u64 ((x22 + y13 + 0) / 18446744073709551616)) rfl rfl ?_
      refine k_end ?_; intro e88 qe88
      have s5_e88 : e88 5 = .pointer (some ⟨g3, 0, none⟩) := (congrFun qe88 5).trans s5_e87
      have s6_e88 : e88 6 = .pointer (some ⟨g4, 0, none⟩) := (congrFun qe88 6).trans s6_e87
      have s7_e88 : e88 7 = .pointer (some ⟨g7, 0, none⟩) := (congrFun qe88 7).trans s7_e87
      have s8_e88 : e88 8 = .pointer (some ⟨g8, 0, none⟩) := (congrFun qe88 8).trans s8_e87
      have s9_e88 : e88 9 = .pointer (some ⟨g9, 0, none⟩) := (congrFun qe88 9).trans s9_e87
      have s10_e88 : e88 10 = .int .i64 y11 := (congrFun qe88 10).trans s10_e87
      have s12_e88 : e88 12 = .int .i64 y14 := (congrFun qe88 12).trans s12_e87
      have s13_e88 : e88 13 = .int .u64 x18 := (congrFun qe88 13).trans s13_e87
      obtain ⟨x25, qx25, h⟩ := lt_e h
      have s14_e88 : e88 14 = .int .u64 x25 := (congrFun qe88 14).trans (congrArg (Value.int .u64) qx25.symm)
      have s15_e88 : e88 15 = .int .u64 x23 := (congrFun qe88 15).trans s15_e87
      obtain ⟨x26, qx26, h⟩ := lt_e h
      have s16_e88 : e88 16 = .int .u64 x26 := (congrFun qe88 16).trans (congrArg (Value.int .u64) qx26.symm)
      have s23_e88 : e88 23 = .int .i64 y11 := (congrFun qe88 23).trans s23_e87
      have s26_e88 : e88 26 = .int .i64 y14 := (congrFun qe88 26).trans s26_e87
      clear qe88
      refine wregion (.tp 0 (.tp 1 (.tp 2 (.tp 3 (.tp 4 (.tp 5 (.tp 6 (.tp 7 (.tp 8 (.tp 9 (.ef 10 (.tp 11 (.done))))))))))))) [10] rfl (by kernel_rfl) (by kernel_rfl) ?_
      refine k_move (v := .int .i64 y11) rfl s10_e88 ?_
      refine k_move (v := .int .i64 y14) rfl s12_e88 ?_
      refine k_bin (X := .int .i64 y11) (Y := .int .i64 y14) rfl rfl rfl rfl ?_
      refine k_move (v := .int .u64 x25) rfl s14_e88 ?_
      refine k_move (v := .int .u64 x18) rfl s13_e88 ?_
      refine k_move (v := .int .u64 x23) rfl s15_e88 ?_
      refine k_bin (X := .int .u64 x18) (Y := .int .u64 x23) rfl rfl rfl rfl ?_
      refine k_move (v := .int .u64 x26) rfl s16_e88 ?_
      refine k_bin (X := .int .u64 (IntKind.u64.wrap (x18 + x23))) (Y := .int .u64 x26) rfl rfl rfl rfl ?_
      refine k_indexA (n := 8) (s := 1) (j := (IntKind.i64.wrap (y11 + y14))) rfl Tryd.underlying39 (by kernel_rfl) s9_e88 rfl c20 ?_
      refine k_store (v := .int .u64 x25) 6 ((IntKind.i64.wrap (y11 + y14)) : Int).toNat (r := ⟨g9, 0, ints .u64 y12⟩) rfl (by kernel_rfl) rfl rfl rfl hp rfl rfl (show 0 + ((IntKind.i64.wrap (y11 + y14)) : Int).toNat * 1 = 0 + ((IntKind.i64.wrap (y11 + y14)) : Int).toNat by omega) (Nat.lt_of_lt_of_eq (idx_lt c20 ly12) (ints_length _ _).symm) (by decide) ?_; intro w hp; rw [ints_set] at hp
      refine k_assign (v := .int .u64 (IntKind.u64.wrap ((IntKind.u64.wrap (x18 + x23)) + x26))) rfl rfl ?_
      refine k_end ?_; intro e89 qe89
      have s5_e89 : e89 5 = .pointer (some ⟨g3, 0, none⟩) := (congrFun qe89 5).trans s5_e88
      have s6_e89 : e89 6 = .pointer (some ⟨g4, 0, none⟩) := (congrFun qe89 6).trans s6_e88
      have s7_e89 : e89 7 = .pointer (some ⟨g7, 0, none⟩) := (congrFun qe89 7).trans s7_e88
      have s8_e89 : e89 8 = .pointer (some ⟨g8, 0, none⟩) := (congrFun qe89 8).trans s8_e88
      have s9_e89 : e89 9 = .pointer (some ⟨g9, 0, none⟩) := (congrFun qe89 9).trans s9_e88
      have s10_e89 : e89 10 = .int .i64 y11 := (congrFun qe89 10).trans s10_e88
      obtain ⟨x27, qx27, h⟩ := lt_e h
      have s11_e89 : e89 11 = .int .u64 x27 := (congrFun qe89 11).trans (congrArg (Value.int .u64) qx27.symm)
      have s23_e89 : e89 23 = .int .i64 y11 := (congrFun qe89 23).trans s23_e88
      have s26_e89 : e89 26 = .int .i64 y14 := (congrFun qe89 26).trans s26_e88
      clear qe89
      refine wregion (.tp 0 (.tp 1 (.done))) [] rfl (by kernel_rfl) (by kernel_rfl) ?_
      refine k_bin (X := .int .i64 y14) (Y := .int .i64 1) rfl s26_e89 rfl rfl ?_
      refine k_move (v := .int .i64 (IntKind.i64.wrap (y14 + 1))) rfl rfl ?_
      refine k_end ?_; intro e90 qe90
      have s5_e90 : e90 5 = .pointer (some ⟨g3, 0, none⟩) := (congrFun qe90 5).trans s5_e89
      have s6_e90 : e90 6 = .pointer (some ⟨g4, 0, none⟩) := (congrFun qe90 6).trans s6_e89
      have s7_e90 : e90 7 = .pointer (some ⟨g7, 0, none⟩) := (congrFun qe90 7).trans s7_e89
      have s8_e90 : e90 8 = .pointer (some ⟨g8, 0, none⟩) := (congrFun qe90 8).trans s8_e89
      have s9_e90 : e90 9 = .pointer (some ⟨g9, 0, none⟩) := (congrFun qe90 9).trans s9_e89
      have s10_e90 : e90 10 = .int .i64 y11 := (congrFun qe90 10).trans s10_e89
      have s11_e90 : e90 11 = .int .u64 x27 := (congrFun qe90 11).trans s11_e89
      have s23_e90 : e90 23 = .int .i64 y11 := (congrFun qe90 23).trans s23_e89
      obtain ⟨x28, qx28, h⟩ := lt_e h
      have s26_e90 : e90 26 = .int .i64 x28 := (congrFun qe90 26).trans (congrArg (Value.int .i64) qx28.symm)
      clear qe90
      exact ih (y12.set ((IntKind.i64.wrap (y11 + y14)) : Int).toNat x25) x27 x28 _ _ (List.length_set.trans ly12) s5_e90 s6_e90 s7_e90 s8_e90 s9_e90 s10_e90 s11_e90 s23_e90 s26_e90 (hp.drop (L' := [⟨g1, 0, ints .u8 a0⟩, ⟨g2, 0, ints .u8 a1⟩, ⟨g3, 0, ints .u8 a2⟩, ⟨g4, 0, ints .u8 (List.replicate 32 (0 : Int))⟩, ⟨g7, 0, ints .u64 r5⟩, ⟨g8, 0, ints .u64 r6⟩, ⟨g9, 0, ints .u64 (y12.set ((IntKind.i64.wrap (y11 + y14)) : Int).toNat x25)⟩]) (List.Sublist.refl _)) h
    · replace h := br_f hb h
      refine wexit rfl ?_
      exact hQ0 _ _ y13 y12 ly12 s5_e83 s6_e83 s7_e83 s8_e83 s9_e83 s10_e83 s11_e83 s23_e83 (hp.drop (L' := [⟨g1, 0, ints .u8 a0⟩, ⟨g2, 0, ints .u8 a1⟩, ⟨g3, 0, ints .u8 a2⟩, ⟨g4, 0, ints .u8 (List.replicate 32 (0 : Int))⟩, ⟨g7, 0, ints .u64 r5⟩, ⟨g8, 0, ints .u64 r6⟩, ⟨g9, 0, ints .u64 y12⟩]) (List.Sublist.refl _)) (Option.some.inj h).symm
theorem scalar_MulAdd.p1_ok {w0 : World} {Ws : List Wr} {Q : Exit → Env → World → Prop} (g1 g2 g3 g4 g7 g8 g9 : Nat) (a0 : List Int) (a1 : List Int) (a2 : List Int) (r5 : List Int) (r6 : List Int) (l_a0 : a0.length = 32) (l_a1 : a1.length = 32) (l_a2 : a2.length = 32) (l_r5 : r5.length = 4) (l_r6 : r6.length = 4) {r : List Int} (hQ0 : ∀ (e' : Env) (w' : World) (z0 : List Int), z0.length = 8 → e' 5 = .pointer (some ⟨g3, 0, none⟩) → e' 6 = .pointer (some ⟨g4, 0, none⟩) → e' 9 = .pointer (some ⟨g9, 0, none⟩) → Hp w0 Ws w' [⟨g1, 0, ints .u8 a0⟩, ⟨g2, 0, ints .u8 a1⟩, ⟨g3, 0, ints .u8 a2⟩, ⟨g4, 0, ints .u8 (List.replicate 32 (0 : Int))⟩, ⟨g7, 0, ints .u64 r5⟩, ⟨g8, 0, ints .u64 r6⟩, ⟨g9, 0, ints .u64 z0⟩] [⟨0, 0, ints .u64 [6346243789798364141, 1503914060200516822, 0, 1152921504606846976]⟩] → r = (z0) → Q (.exit 0) e' w') : ∀ (k : Nat), ∀ (y10 : List Int) (y11 : Int) (e : Env) (w : World) (ly10 : y10.length = 8) (s5_e : e 5 = .pointer (some ⟨g3, 0, none⟩)) (s6_e : e 6 = .pointer (some ⟨g4, 0, none⟩)) (s7_e : e 7 = .pointer (some ⟨g7, 0, none⟩)) (s8_e : e 8 = .pointer (some ⟨g8, 0, none⟩)) (s9_e : e 9 = .pointer (some ⟨g9, 0, none⟩)) (s23_e : e 23 = .int .i64 y11) (hp : Hp w0 Ws w [⟨g1, 0, ints .u8 a0⟩, ⟨g2, 0, ints .u8 a1⟩, ⟨g3, 0, ints .u8 a2⟩, ⟨g4, 0, ints .u8 (List.replicate 32 (0 : Int))⟩, ⟨g7, 0, ints .u64 r5⟩, ⟨g8, 0, ints .u64 r6⟩, ⟨g9, 0, ints .u64 y10⟩] [⟨0, 0, ints .u64 [6346243789798364141, 1503914060200516822, 0, 1152921504606846976]⟩]) (h : scalar_MulAdd.p1 k r5 r6 y10 y11 = some r), Lp Tryd.prog Tryd.f9.ntmps (at_ (fbody Tryd.f9) [1, 1, 1, 0, 1, 0, 0]) Q k e w := by
  intro k
  induction k with
  | zero => intro y10 y11 e w ly10 s5_e s6_e s7_e s8_e s9_e s23_e hp h; cases h
  | succ k ih =>
    intro y10 y11 e w ly10 s5_e s6_e s7_e s8_e s9_e s23_e hp h
    unfold scalar_MulAdd.p1 at h
    show Wp _ _ _ _ _ _
    refine wseq rfl ?_
    refine wregion (.tp 0 (.done)) [] rfl (by kernel_rfl) (by kernel_rfl) ?_
    refine k_bin (X := .int .i64 y11) (Y := .int .i64 4) rfl s23_e rfl rfl ?_
    refine k_end ?_; intro e79 qe79
    have s5_e79 : e79 5 = .pointer (some ⟨g3, 0, none⟩) := (congrFun qe79 5).trans s5_e
    have s6_e79 : e79 6 = .pointer (some ⟨g4, 0, none⟩) := (congrFun qe79 6).trans s6_e
    have s7_e79 : e79 7 = .pointer (some ⟨g7, 0, none⟩) := (congrFun qe79 7).trans s7_e
    have s8_e79 : e79 8 = .pointer (some ⟨g8, 0, none⟩) := (congrFun qe79 8).trans s8_e
    have s9_e79 : e79 9 = .pointer (some ⟨g9, 0, none⟩) := (congrFun qe79 9).trans s9_e
    have s23_e79 : e79 23 = .int .i64 y11 := (congrFun qe79 23).trans s23_e
    have s24_e79 : e79 24 = .bool (decide (y11 < 4)) := congrFun qe79 24
    clear qe79
    refine wseq rfl ?_
    refine wcond (t := (decide (y11 < 4))) rfl (by decide) s24_e79 (fun hb => ?_) (fun hb => ?_)
    · replace h := br_t hb h
      refine wskip rfl ?_
      refine wseq rfl ?_
      refine wblock rfl ?_
      refine wseq rfl ?_
      refine wregion (.tp 0 (.tp 1 (.done))) [] rfl (by kernel_rfl) (by kernel_rfl) ?_
      refine k_move (v := .int .i64 y11) rfl s23_e79 ?_
      refine k_assign (v := .int .i64 y11) rfl rfl ?_
      refine k_end ?_; intro e80 qe80
      have s5_e80 : e80 5 = .pointer (some ⟨g3, 0, none⟩) := (congrFun qe80 5).trans s5_e79
      have s6_e80 : e80 6 = .pointer (some ⟨g4, 0, none⟩) := (congrFun qe80 6).trans s6_e79
      have s7_e80 : e80 7 = .pointer (some ⟨g7, 0, none⟩) := (congrFun qe80 7).trans s7_e79
      have s8_e80 : e80 8 = .pointer (some ⟨g8, 0, none⟩) := (congrFun qe80 8).trans s8_e79
      have s9_e80 : e80 9 = .pointer (some ⟨g9, 0, none⟩) := (congrFun qe80 9).trans s9_e79
      have s10_e80 : e80 10 = .int .i64 y11 := congrFun qe80 10
      have s23_e80 : e80 23 = .int .i64 y11 := (congrFun qe80 23).trans s23_e79
      clear qe80
      refine wseq rfl ?_
      refine wregion (.tp 0 (.done)) [] rfl (by kernel_rfl) (by kernel_rfl) ?_
      refine k_assign (v := .int .u64 0) rfl rfl ?_
      refine k_end ?_; intro e81 qe81
      have s5_e81 : e81 5 = .pointer (some ⟨g3, 0, none⟩) := (congrFun qe81 5).trans s5_e80
      have s6_e81 : e81 6 = .pointer (some ⟨g4, 0, none⟩) := (congrFun qe81 6).trans s6_e80
      have s7_e81 : e81 7 = .pointer (some ⟨g7, 0, none⟩) := (congrFun qe81 7).trans s7_e80
      have s8_e81 : e81 8 = .pointer (some ⟨g8, 0, none⟩) := (congrFun qe81 8).trans s8_e80
      have s9_e81 : e81 9 = .pointer (some ⟨g9, 0, none⟩) := (congrFun qe81 9).trans s9_e80
      have s10_e81 : e81 10 = .int .i64 y11 := (congrFun qe81 10).trans s10_e80
      have s11_e81 : e81 11 = .int .u64 0 := congrFun qe81 11
      have s23_e81 : e81 23 = .int .i64 y11 := (congrFun qe81 23).trans s23_e80
      clear qe81
      refine wseq rfl ?_
      refine wseq rfl ?_
      refine wregion (.tp 0 (.done)) [] rfl (by kernel_rfl) (by kernel_rfl) ?_
      refine k_move (v := .int .i64 0) rfl rfl ?_
      refine k_end ?_; intro e82 qe82
      have s5_e82 : e82 5 = .pointer (some ⟨g3, 0, none⟩) := (congrFun qe82 5).trans s5_e81
      have s6_e82 : e82 6 = .pointer (some ⟨g4, 0, none⟩) := (congrFun qe82 6).trans s6_e81
      have s7_e82 : e82 7 = .pointer (some ⟨g7, 0, none⟩) := (congrFun qe82 7).trans s7_e81
      have s8_e82 : e82 8 = .pointer (some ⟨g8, 0, none⟩) := (congrFun qe82 8).trans s8_e81
      have s9_e82 : e82 9 = .pointer (some ⟨g9, 0, none⟩) := (congrFun qe82 9).trans s9_e81
      have s10_e82 : e82 10 = .int .i64 y11 := (congrFun qe82 10).trans s10_e81
      have s11_e82 : e82 11 = .int .u64 0 := (congrFun qe82 11).trans s11_e81
      have s23_e82 : e82 23 = .int .i64 y11 := (congrFun qe82 23).trans s23_e81
      have s26_e82 : e82 26 = .int .i64 0 := congrFun qe82 26
      clear qe82
      refine wblock rfl ?_
      obtain ⟨r29, qr29, h⟩ := bd_e h
      refine wloop k rfl (scalar_MulAdd.p2_ok g1 g2 g3 g4 g7 g8 g9 y11 a0 a1 a2 r5 r6 l_a0 l_a1 l_a2 l_r5 l_r6 ?hq0 k y10 0 0 e82 _ ly10 s5_e82 s6_e82 s7_e82 s8_e82 s9_e82 s10_e82 s11_e82 s23_e82 s26_e82 hp qr29)
      case hq0 =>
        intro e91 w m30 m31 lm31 s5_e91 s6_e91 s7_e91 s8_e91 s9_e91 s10_e91 s11_e91 s23_e91 hp qq
        rw [qq] at h; clear qq
        refine wregion (.tp 0 (.tp 1 (.tp 2 (.tp 3 (.ef 4 (.done)))))) [4] rfl (by kernel_rfl) (by kernel_rfl) ?_
        refine k_move (v := .int .i64 y11) rfl s10_e91 ?_
        refine k_bin (X := .int .i64 y11) (Y := .int .i64 4) rfl rfl rfl rfl ?_
        refine k_move (v := .int .u64 m30) rfl s11_e91 ?_
        obtain ⟨c32, h⟩ := chk_e h
        refine k_indexA (n := 8) (s := 1) (j := (IntKind.i64.wrap (y11 + 4))) rfl Tryd.underlying39 (by kernel_rfl) s9_e91 rfl c32 ?_
        refine k_store (v := .int .u64 m30) 6 ((IntKind.i64.wrap (y11 + 4)) : Int).toNat (r := ⟨g9, 0, ints .u64 m31⟩) rfl (by kernel_rfl) rfl rfl rfl hp rfl rfl (show 0 + ((IntKind.i64.wrap (y11 + 4)) : Int).toNat * 1 = 0 + ((IntKind.i64.wrap (y11 + 4)) : Int).toNat by omega) (Nat.lt_of_lt_of_eq (idx_lt c32 lm31) (ints_length _ _).symm) (by decide) ?_; intro w hp; rw [ints_set] at hp
        refine k_end ?_; intro e92 qe92
        have s5_e92 : e92 5 = .pointer (some ⟨g3, 0, none⟩) := (congrFun qe92 5).trans s5_e91
        have s6_e92 : e92 6 = .pointer (some ⟨g4, 0, none⟩) := (congrFun qe92 6).trans s6_e91
        have s7_e92 : e92 7 = .pointer (some ⟨g7, 0, none⟩) := (congrFun qe92 7).trans s7_e91
        have s8_e92 : e92 8 = .pointer (some ⟨g8, 0, none⟩) := (congrFun qe92 8).trans s8_e91
        have s9_e92 : e92 9 = .pointer (some ⟨g9, 0, none⟩) := (congrFun qe92 9).trans s9_e91
        have s23_e92 : e92 23 = .int .i64 y11 := (congrFun qe92 23).trans s23_e91
        clear qe92
        refine wregion (.tp 0 (.tp 1 (.done))) [] rfl (by kernel_rfl) (by kernel_rfl) ?_
        refine k_bin (X := .int .i64 y11) (Y := .int .i64 1) rfl s23_e92 rfl rfl ?_
        refine k_move (v := .int .i64 (IntKind.i64.wrap (y11 + 1))) rfl rfl ?_
        refine k_end ?_; intro e93 qe93
        have s5_e93 : e93 5 = .pointer (some ⟨g3, 0, none⟩) := (congrFun qe93 5).trans s5_e92
        have s6_e93 : e93 6 = .pointer (some ⟨g4, 0, none⟩) := (congrFun qe93 6).trans s6_e92
        have s7_e93 : e93 7 = .pointer (some ⟨g7, 0, none⟩) := (congrFun qe93 7).trans s7_e92
        have s8_e93 : e93 8 = .pointer (some ⟨g8, 0, none⟩) := (congrFun qe93 8).trans s8_e92
        have s9_e93 : e93 9 = .pointer (some ⟨g9, 0, none⟩) := (congrFun qe93 9).trans s9_e92
        obtain ⟨x33, qx33, h⟩ := lt_e h
        have s23_e93 : e93 23 = .int .i64 x33 := (congrFun qe93 23).trans (congrArg (Value.int .i64) qx33.symm)
        clear qe93
        exact ih (m31.set ((IntKind.i64.wrap (y11 + 4)) : Int).toNat m30) x33 _ _ (List.length_set.trans lm31) s5_e93 s6_e93 s7_e93 s8_e93 s9_e93 s23_e93 (hp.drop (L' := [⟨g1, 0, ints .u8 a0⟩, ⟨g2, 0, ints .u8 a1⟩, ⟨g3, 0, ints .u8 a2⟩, ⟨g4, 0, ints .u8 (List.replicate 32 (0 : Int))⟩, ⟨g7, 0, ints .u64 r5⟩, ⟨g8, 0, ints .u64 r6⟩, ⟨g9, 0, ints .u64 (m31.set ((IntKind.i64.wrap (y11 + 4)) : Int).toNat m30)⟩]) (List.Sublist.refl _)) h
    · replace h := br_f hb h
      refine wexit rfl ?_
      exact hQ0 _ _ y10 ly10 s5_e79 s6_e79 s9_e79 (hp.drop (L' := [⟨g1, 0, ints .u8 a0⟩, ⟨g2, 0, ints .u8 a1⟩, ⟨g3, 0, ints .u8 a2⟩, ⟨g4, 0, ints .u8 (List.replicate 32 (0 : Int))⟩, ⟨g7, 0, ints .u64 r5⟩, ⟨g8, 0, ints .u64 r6⟩, ⟨g9, 0, ints .u64 y10⟩]) (List.Sublist.refl _)) (Option.some.inj h).symm
theorem scalar_MulAdd.p3_ok {w0 : World} {Ws : List Wr} {Q : Exit → Env → World → Prop} (g1 g2 g3 g36 g4 g7 g8 g9 : Nat) (a0 : List Int) (a1 : List Int) (a2 : List Int) (r5 : List Int) (r6 : List Int) (m35 : List Int) (l_a0 : a0.length = 32) (l_a1 : a1.length = 32) (l_a2 : a2.length = 32) (l_r5 : r5.length = 4) (l_r6 : r6.length = 4) (l_m35 : m35.length = 8) {r : List Int} (hQ0 : ∀ (e' : Env) (w' : World) (z0 : List Int), z0.length = 64 → e' 5 = .pointer (some ⟨g3, 0, none⟩) → e' 6 = .pointer (some ⟨g4, 0, none⟩) → e' 17 = .pointer (some ⟨g36, 0, none⟩) → Hp w0 Ws w' [⟨g1, 0, ints .u8 a0⟩, ⟨g2, 0, ints .u8 a1⟩, ⟨g3, 0, ints .u8 a2⟩, ⟨g4, 0, ints .u8 (List.replicate 32 (0 : Int))⟩, ⟨g7, 0, ints .u64 r5⟩, ⟨g8, 0, ints .u64 r6⟩, ⟨g9, 0, ints .u64 m35⟩, ⟨g36, 0, ints .u8 z0⟩] [⟨0, 0, ints .u64 [6346243789798364141, 1503914060200516822, 0, 1152921504606846976]⟩] → r = (z0) → Q (.exit 4) e' w') : ∀ (k : Nat), ∀ (y37 : List Int) (y38 : Int) (e : Env) (w : World) (ly37 : y37.length = 64) (s5_e : e 5 = .pointer (some ⟨g3, 0, none⟩)) (s6_e : e 6 = .pointer (some ⟨g4, 0, none⟩)) (s9_e : e 9 = .pointer (some ⟨g9, 0, none⟩)) (s17_e : e 17 = .pointer (some ⟨g36, 0, none⟩)) (s71_e : e 71 = .int .i64 y38) (hp : Hp w0 Ws w [⟨g1, 0, ints .u8 a0⟩, ⟨g2, 0, ints .u8 a1⟩, ⟨g3, 0, ints .u8 a2⟩, ⟨g4, 0, ints .u8 (List.replicate 32 (0 : Int))⟩, ⟨g7, 0, ints .u64 r5⟩, ⟨g8, 0, ints .u64 r6⟩, ⟨g9, 0, ints .u64 m35⟩, ⟨g36, 0, ints .u8 y37⟩] [⟨0, 0, ints .u64 [6346243789798364141, 1503914060200516822, 0, 1152921504606846976]⟩]) (h : scalar_MulAdd.p3 k m35 y37 y38 = some r), Lp Tryd.prog Tryd.f9.ntmps (at_ (fbody Tryd.f9) [1, 1, 1, 1, 1, 0, 1, 0, 0]) Q k e w := by
  intro k
  induction k with
  | zero => intro y37 y38 e w ly37 s5_e s6_e s9_e s17_e s71_e hp h; cases h
  | succ k ih =>
    intro y37 y38 e w ly37 s5_e s6_e s9_e s17_e s71_e hp h
    unfold scalar_MulAdd.p3 at h
    show Wp _ _ _ _ _ _
    refine wseq rfl ?_
    refine wregion (.tp 0 (.done)) [] rfl (by kernel_rfl) (by kernel_rfl) ?_
    refine k_bin (X := .int .i64 y38) (Y := .int .i64 64) rfl s71_e rfl rfl ?_
    refine k_end ?_; intro e97 qe97
    have s5_e97 : e97 5 = .pointer (some ⟨g3, 0, none⟩) := (congrFun qe97 5).trans s5_e
    have s6_e97 : e97 6 = .pointer (some ⟨g4, 0, none⟩) := (congrFun qe97 6).trans s6_e
    have s9_e97 : e97 9 = .pointer (some ⟨g9, 0, none⟩) := (congrFun qe97 9).trans s9_e
    have s17_e97 : e97 17 = .pointer (some ⟨g36, 0, none⟩) := (congrFun qe97 17).trans s17_e
    have s71_e97 : e97 71 = .int .i64 y38 := (congrFun qe97 71).trans s71_e
    have s72_e97 : e97 72 = .bool (decide (y38 < 64)) := congrFun qe97 72
    clear qe97
    refine wseq rfl ?_
    refine wcond (t := (decide (y38 < 64))) rfl (by decide) s72_e97 (fun hb => ?_) (fun hb => ?_)
    · replace h := br_t hb h
      refine wskip rfl ?_
      refine wseq rfl ?_
      refine wblock rfl ?_
      refine wseq rfl ?_
      refine wregion (.tp 0 (.tp 1 (.done))) [] rfl (by kernel_rfl) (by kernel_rfl) ?_
      refine k_move (v := .int .i64 y38) rfl s71_e97 ?_
      refine k_assign (v := .int .i64 y38) rfl rfl ?_
      refine k_end ?_; intro e98 qe98
      have s5_e98 : e98 5 = .pointer (some ⟨g3, 0, none⟩) := (congrFun qe98 5).trans s5_e97
      have s6_e98 : e98 6 = .pointer (some ⟨g4, 0, none⟩) := (congrFun qe98 6).trans s6_e97
      have s9_e98 : e98 9 = .pointer (some ⟨g9, 0, none⟩) := (congrFun qe98 9).trans s9_e97
      have s17_e98 : e98 17 = .pointer (some ⟨g36, 0, none⟩) := (congrFun qe98 17).trans s17_e97
      have s18_e98 : e98 18 = .int .i64 y38 := congrFun qe98 18
      have s71_e98 : e98 71 = .int .i64 y38 := (congrFun qe98 71).trans s71_e97
      clear qe98
      refine wregion (.tp 0 (.tp 1 (.tp 2 (.tp 3 (.tk 4 (.tp 5 (.tp 6 (.tp 7 (.tp 8 (.tp 9 (.tp 10 (.ef 11 (.done))))))))))))) [11] rfl (by kernel_rfl) (by kernel_rfl) ?_
      refine k_move (v := .int .i64 y38) rfl s18_e98 ?_
      refine k_move (v := .int .i64 y38) rfl s18_e98 ?_
      refine k_quo (a := y38) (b := 8) rfl rfl rfl (by decide) ?_
      obtain ⟨c39, h⟩ := chk_e h
      refine k_indexA (n := 8) (s := 1) (j := (IntKind.i64.wrap (Int.tdiv y38 8))) rfl Tryd.underlying39 (by kernel_rfl) s9_e98 rfl c39 ?_
      refine k_load (j := ((IntKind.i64.wrap (Int.tdiv y38 8)) : Int).toNat) (v := .int .u64 (m35.getD ((IntKind.i64.wrap (Int.tdiv y38 8)) : Int).toNat 0)) rfl (by kernel_rfl) rfl (hp.get (j := 6) rfl) rfl (show 0 + ((IntKind.i64.wrap (Int.tdiv y38 8)) : Int).toNat * 1 = 0 + ((IntKind.i64.wrap (Int.tdiv y38 8)) : Int).toNat by omega) (ints_get (idx_lt c39 l_m35)) ?_
      refine k_move (v := .int .i64 y38) rfl s18_e98 ?_
      refine k_rem (a := y38) (b := 8) rfl rfl rfl (by decide) ?_
      refine k_bin (X := .int .i64 8) (Y := .int .i64 (Int.tmod y38 8)) rfl rfl rfl rfl ?_
      obtain ⟨c40, h⟩ := chk_e h
      refine k_shr (a := (m35.getD ((IntKind.i64.wrap (Int.tdiv y38 8)) : Int).toNat 0)) (b := (IntKind.i64.wrap (8 * (Int.tmod y38 8)))) rfl rfl rfl c40 ?_
      refine k_conv (k := .u8) (k' := .u64) (n := (Int.fdiv (m35.getD ((IntKind.i64.wrap (Int.tdiv y38 8)) : Int).toNat 0) (2 ^ (min ((IntKind.i64.wrap (8 * (Int.tmod y38 8))) : Int).toNat (IntKind.u64).bits)))) rfl Tryd.underlying33 Tryd.underlying5 rfl ?_
      obtain ⟨c41, h⟩ := chk_e h
      refine k_indexA (n := 64) (s := 1) (j := y38) rfl Tryd.underlying24 (by kernel_rfl) s17_e98 rfl c41 ?_
      refine k_store (v := .int .u8 (IntKind.u8.wrap (Int.fdiv (m35.getD ((IntKind.i64.wrap (Int.tdiv y38 8)) : Int).toNat 0) (2 ^ (min ((IntKind.i64.wrap (8 * (Int.tmod y38 8))) : Int).toNat (IntKind.u64).bits))))) 7 (y38 : Int).toNat (r := ⟨g36, 0, ints .u8 y37⟩) rfl (by kernel_rfl) rfl rfl rfl hp rfl rfl (show 0 + (y38 : Int).toNat * 1 = 0 + (y38 : Int).toNat by omega) (Nat.lt_of_lt_of_eq (idx_lt c41 ly37) (ints_length _ _).symm) (by decide) ?_; intro w hp; rw [ints_set] at hp
      refine k_end ?_; intro e99 qe99
      have s5_e99 : e99 5 = .pointer (some ⟨g3, 0, none⟩) := (congrFun qe99 5).trans s5_e98
      have s6_e99 : e99 6 = .pointer (some ⟨g4, 0, none⟩) := (congrFun qe99 6).trans s6_e98
      have s9_e99 : e99 9 = .pointer (some ⟨g9, 0, none⟩) := (congrFun qe99 9).trans s9_e98
      have s17_e99 : e99 17 = .pointer (some ⟨g36, 0, none⟩) := (congrFun qe99 17).trans s17_e98
      have s71_e99 : e99 71 = .int .i64 y38 := (congrFun qe99 71).trans s71_e98
      clear qe99
      refine wregion (.tp 0 (.tp 1 (.done))) [] rfl (by kernel_rfl) (by kernel_rfl) ?_
      refine k_bin (X := .int .i64 y38) (Y := .int .i64 1) rfl s71_e99 rfl rfl ?_
      refine k_move (v := .int .i64 (IntKind.i64.wrap (y38 + 1))) rfl rfl ?_
      refine k_end ?_; intro e100 qe100
      have s5_e100 : e100 5 = .pointer (some ⟨g3, 0, none⟩) := (congrFun qe100 5).trans s5_e99
      have s6_e100 : e100 6 = .pointer (some ⟨g4, 0, none⟩) := (congrFun qe100 6).trans s6_e99
      have s9_e100 : e100 9 = .pointer (some ⟨g9, 0, none⟩) := (congrFun qe100 9).trans s9_e99
      have s17_e100 : e100 17 = .pointer (some ⟨g36, 0, none⟩) := (congrFun qe100 17).trans s17_e99
      obtain ⟨x42, qx42, h⟩ := lt_e h
      have s71_e100 : e100 71 = .int .i64 x42 := (congrFun qe100 71).trans (congrArg (Value.int .i64) qx42.symm)
      clear qe100
      exact ih (y37.set (y38 : Int).toNat (IntKind.u8.wrap (Int.fdiv (m35.getD ((IntKind.i64.wrap (Int.tdiv y38 8)) : Int).toNat 0) (2 ^ (min ((IntKind.i64.wrap (8 * (Int.tmod y38 8))) : Int).toNat (IntKind.u64).bits))))) x42 _ _ (List.length_set.trans ly37) s5_e100 s6_e100 s9_e100 s17_e100 s71_e100 (hp.drop (L' := [⟨g1, 0, ints .u8 a0⟩, ⟨g2, 0, ints .u8 a1⟩, ⟨g3, 0, ints .u8 a2⟩, ⟨g4, 0, ints .u8 (List.replicate 32 (0 : Int))⟩, ⟨g7, 0, ints .u64 r5⟩, ⟨g8, 0, ints .u64 r6⟩, ⟨g9, 0, ints .u64 m35⟩, ⟨g36, 0, ints .u8 (y37.set (y38 : Int).toNat (IntKind.u8.wrap (Int.fdiv (m35.getD ((IntKind.i64.wrap (Int.tdiv y38 8)) : Int).toNat 0) (2 ^ (min ((IntKind.i64.wrap (8 * (Int.tmod y38 8))) : Int).toNat (IntKind.u64).bits)))))⟩]) (List.Sublist.refl _)) h
    · replace h := br_f hb h
      refine wexit rfl ?_
      exact hQ0 _ _ y37 ly37 s5_e97 s6_e97 s17_e97 (hp.drop (L' := [⟨g1, 0, ints .u8 a0⟩, ⟨g2, 0, ints .u8 a1⟩, ⟨g3, 0, ints .u8 a2⟩, ⟨g4, 0, ints .u8 (List.replicate 32 (0 : Int))⟩, ⟨g7, 0, ints .u64 r5⟩, ⟨g8, 0, ints .u64 r6⟩, ⟨g9, 0, ints .u64 m35⟩, ⟨g36, 0, ints .u8 y37⟩]) (List.Sublist.refl _)) (Option.some.inj h).symm
theorem scalar_MulAdd_ok (k : Nat) (a0 : List Int) (a1 : List Int) (a2 : List Int) (la0 : a0.length = 32) (la1 : a1.length = 32) (la2 : a2.length = 32) (w0 : World) (hp : Hp w0 [] w0 [] [⟨0, 0, ints .u64 [6346243789798364141, 1503914060200516822, 0, 1152921504606846976]⟩]) {r : List Int} (h : scalar_MulAdd.f k a0 a1 a2 = some r) :
    Calls Tryd.prog 9 [.agg (ints .u8 a0).toArray, .agg (ints .u8 a1).toArray, .agg (ints .u8 a2).toArray].toArray w0 fun x w' => ∃ v, x = .returned v ∧ v = .agg (ints .u8 r).toArray ∧ r.length = 32 ∧ Hp w0 [] w' [] [⟨0, 0, ints .u64 [6346243789798364141, 1503914060200516822, 0, 1152921504606846976]⟩] := by
  refine calls_in Tryd.func9 rfl (Nat.le_of_ble_eq_true (by kernel_rfl)) (by kernel_rfl) ?_
  intro e0 qe0
  have s0_e0 : e0 0 = .agg (ints .u8 a0).toArray := congrFun qe0 0
  have s1_e0 : e0 1 = .agg (ints .u8 a1).toArray := congrFun qe0 1
  have s2_e0 : e0 2 = .agg (ints .u8 a2).toArray := congrFun qe0 2
  clear qe0
  unfold scalar_MulAdd.f at h
  refine wseq rfl ?_
  refine wregion (.ef 0 (.ef 1 (.ef 2 (.ef 3 (.done))))) [] rfl (by kernel_rfl) (by kernel_rfl) ?_
  refine k_box (v := .agg (ints .u8 a0).toArray) (ints .u8 a0) rfl s0_e0 rfl hp ?_
  intro g1 w hbg1 hp
  refine k_box (v := .agg (ints .u8 a1).toArray) (ints .u8 a1) rfl s1_e0 rfl hp ?_
  intro g2 w hbg2 hp
  refine k_box (v := .agg (ints .u8 a2).toArray) (ints .u8 a2) rfl s2_e0 rfl hp ?_
  intro g3 w hbg3 hp
  refine k_alloc (ints .u8 (List.replicate 32 (0 : Int))) rfl (by kernel_rfl) hp ?_
  intro g4 w hbg4 hp
  refine k_end ?_; intro e75 qe75
  have s3_e75 : e75 3 = .pointer (some ⟨g1, 0, none⟩) := congrFun qe75 3
  have s4_e75 : e75 4 = .pointer (some ⟨g2, 0, none⟩) := congrFun qe75 4
  have s5_e75 : e75 5 = .pointer (some ⟨g3, 0, none⟩) := congrFun qe75 5
  have s6_e75 : e75 6 = .pointer (some ⟨g4, 0, none⟩) := congrFun qe75 6
  clear qe75
  refine wseq rfl ?_
  obtain ⟨r5, qr5, h⟩ := bd_e h
  obtain ⟨r6, qr6, h⟩ := bd_e h
  refine wcut (fun e76 w2 => ∃ g7 g8 : Nat, r5.length = 4 ∧ r6.length = 4 ∧ e76 5 = .pointer (some ⟨g3, 0, none⟩) ∧ e76 6 = .pointer (some ⟨g4, 0, none⟩) ∧ e76 7 = .pointer (some ⟨g7, 0, none⟩) ∧ e76 8 = .pointer (some ⟨g8, 0, none⟩) ∧ Hp w0 [] w2 [⟨g1, 0, ints .u8 a0⟩, ⟨g2, 0, ints .u8 a1⟩, ⟨g3, 0, ints .u8 a2⟩, ⟨g4, 0, ints .u8 (List.replicate 32 (0 : Int))⟩, ⟨g7, 0, ints .u64 r5⟩, ⟨g8, 0, ints .u64 r6⟩] [⟨0, 0, ints .u64 [6346243789798364141, 1503914060200516822, 0, 1152921504606846976]⟩]) ?_ ?_
  rotate_left
  · refine wregion_d (.tp 0 (.tp 2 (.alt (.ef 1 (.alt (.ef 3 (.alt (.ef 4 (.ef 5 (.ef 6 (.ef 7 (.done))))) (.ef 5 (.ef 4 (.ef 6 (.ef 7 (.done))))))) (.alt (.ef 4 (.alt (.ef 3 (.ef 5 (.ef 6 (.ef 7 (.done))))) (.ef 5 (.ef 3 (.ef 6 (.ef 7 (.done))))))) (.ef 5 (.alt (.ef 3 (.ef 4 (.ef 6 (.ef 7 (.done))))) (.ef 4 (.ef 3 (.ef 6 (.ef 7 (.done)))))))))) (.alt (.ef 4 (.alt (.ef 1 (.alt (.ef 3 (.ef 5 (.ef 6 (.ef 7 (.done))))) (.ef 5 (.ef 3 (.ef 6 (.ef 7 (.done))))))) (.ef 5 (.ef 1 (.ef 3 (.ef 6 (.ef 7 (.done)))))))) (.ef 5 (.alt (.ef 1 (.alt (.ef 3 (.ef 4 (.ef 6 (.ef 7 (.done))))) (.ef 4 (.ef 3 (.ef 6 (.ef 7 (.done))))))) (.ef 4 (.ef 1 (.ef 3 (.ef 6 (.ef 7 (.done)))))))))))) [6, 7] rfl (by kernel_rfl) (by kernel_rfl) (Nat.le_of_ble_eq_true (by kernel_rfl)) (by kernel_rfl) ?_
    have hp := hp.drew
    refine k_sliceA (n := 32) (s := 1) (l := 0) (h' := 32) rfl Tryd.underlying22 (by kernel_rfl) s3_e75 rfl rfl (by decide) ?_
    refine k_sliceA (n := 32) (s := 1) (l := 0) (h' := 32) rfl Tryd.underlying22 (by kernel_rfl) s4_e75 rfl rfl (by decide) ?_
    refine k_alt ?_ ?_
    ·
      refine k_call [.slice (some ⟨g1, 0 + 0 * 1, none⟩) a0.length (32 - 0)] rfl (by kernel_rfl) (args1 (Eq.trans (b := .slice (some ⟨g1, 0 + 0 * 1, none⟩) (32 - 0) (32 - 0)) rfl (congrArg (fun n => Value.slice (some ⟨g1, 0 + 0 * 1, none⟩) n (32 - 0)) (show (32 - 0) = a0.length from la0.symm)))) (scalar_reduce_ok k a0 g1 (0 + 0 * 1) ((32 - 0))  _ (hp.toR (fun r hr => by simp only [List.mem_cons, List.not_mem_nil, or_false] at hr; rcases hr with rfl | rfl; exact .inr (List.mem_of_getElem? (i := 0) rfl); exact .inl (List.mem_of_getElem? (i := 0) rfl))) qr5) ?_
      rintro _ w' ⟨_, rfl, rfl, lr50, hpc⟩
      refine ⟨_, rfl, .inr (.of_below hpc.chg.to_below), ?_⟩; have hp := hp.below hpc.chg.to_below; clear hpc
      refine k_alt ?_ ?_
      ·
        refine k_call [.slice (some ⟨g2, 0 + 0 * 1, none⟩) a1.length (32 - 0)] rfl (by kernel_rfl) (args1 (Eq.trans (b := .slice (some ⟨g2, 0 + 0 * 1, none⟩) (32 - 0) (32 - 0)) rfl (congrArg (fun n => Value.slice (some ⟨g2, 0 + 0 * 1, none⟩) n (32 - 0)) (show (32 - 0) = a1.length from la1.symm)))) (scalar_reduce_ok k a1 g2 (0 + 0 * 1) ((32 - 0))  _ (hp.toR (fun r hr => by simp only [List.mem_cons, List.not_mem_nil, or_false] at hr; rcases hr with rfl | rfl; exact .inr (List.mem_of_getElem? (i := 0) rfl); exact .inl (List.mem_of_getElem? (i := 1) rfl))) qr6) ?_
        rintro _ w' ⟨_, rfl, rfl, lr60, hpc⟩
        refine ⟨_, rfl, .inr (.of_below hpc.chg.to_below), ?_⟩; have hp := hp.below hpc.chg.to_below; clear hpc
        refine k_alt ?_ ?_
        ·
          refine k_alloc (ints .u64 (List.replicate 4 (0 : Int))) rfl (by kernel_rfl) hp ?_
          intro g7 w hbg7 hp
          refine k_alloc (ints .u64 (List.replicate 4 (0 : Int))) rfl (by kernel_rfl) hp ?_
          intro g8 w hbg8 hp
          refine k_storeA (v := .agg (ints .u64 r5).toArray) 4 0 (r := ⟨g7, 0, ints .u64 (List.replicate 4 (0 : Int))⟩) (ints .u64 r5) (ints .u64 r5) rfl (n := 4) (by kernel_rfl) rfl rfl rfl ((ints_length _ _).trans lr50) (ints_one _ _) hp rfl rfl rfl (Nat.le_of_eq ((Nat.zero_add _).trans ((ints_length _ _).trans List.length_replicate).symm)) (setMany_all _ _ (((ints_length _ _).trans lr50).trans ((ints_length _ _).trans List.length_replicate).symm)) (by decide) ?_; intro w hp
          refine k_storeA (v := .agg (ints .u64 r6).toArray) 5 0 (r := ⟨g8, 0, ints .u64 (List.replicate 4 (0 : Int))⟩) (ints .u64 r6) (ints .u64 r6) rfl (n := 4) (by kernel_rfl) rfl rfl rfl ((ints_length _ _).trans lr60) (ints_one _ _) hp rfl rfl rfl (Nat.le_of_eq ((Nat.zero_add _).trans ((ints_length _ _).trans List.length_replicate).symm)) (setMany_all _ _ (((ints_length _ _).trans lr60).trans ((ints_length _ _).trans List.length_replicate).symm)) (by decide) ?_; intro w hp
          refine k_endI ?_; intro e76 qe76
          exact ⟨g7, g8, lr50, lr60, (congrFun qe76 5).trans s5_e75, (congrFun qe76 6).trans s6_e75, congrFun qe76 7, congrFun qe76 8, hp⟩
        refine k_alloc (ints .u64 (List.replicate 4 (0 : Int))) rfl (by kernel_rfl) hp ?_
        intro g8 w hbg8 hp
        refine k_alloc (ints .u64 (List.replicate 4 (0 : Int))) rfl (by kernel_rfl) hp ?_
        intro g7 w hbg7 hp
        refine k_storeA (v := .agg (ints .u64 r5).toArray) 5 0 (r := ⟨g7, 0, ints .u64 (List.replicate 4 (0 : Int))⟩) (ints .u64 r5) (ints .u64 r5) rfl (n := 4) (by kernel_rfl) rfl rfl rfl ((ints_length _ _).trans lr50) (ints_one _ _) hp rfl rfl rfl (Nat.le_of_eq ((Nat.zero_add _).trans ((ints_length _ _).trans List.length_replicate).symm)) (setMany_all _ _ (((ints_length _ _).trans lr50).trans ((ints_length _ _).trans List.length_replicate).symm)) (by decide) ?_; intro w hp
        refine k_storeA (v := .agg (ints .u64 r6).toArray) 4 0 (r := ⟨g8, 0, ints .u64 (List.replicate 4 (0 : Int))⟩) (ints .u64 r6) (ints .u64 r6) rfl (n := 4) (by kernel_rfl) rfl rfl rfl ((ints_length _ _).trans lr60) (ints_one _ _) hp rfl rfl rfl (Nat.le_of_eq ((Nat.zero_add _).trans ((ints_length _ _).trans List.length_replicate).symm)) (setMany_all _ _ (((ints_length _ _).trans lr60).trans ((ints_length _ _).trans List.length_replicate).symm)) (by decide) ?_; intro w hp
        refine k_endI ?_; intro e76 qe76
        have hp := hp.swap 4
        exact ⟨g7, g8, lr50, lr60, (congrFun qe76 5).trans s5_e75, (congrFun qe76 6).trans s6_e75, congrFun qe76 7, congrFun qe76 8, hp⟩
      refine k_alt ?_ ?_
      ·
        refine k_alloc (ints .u64 (List.replicate 4 (0 : Int))) rfl (by kernel_rfl) hp ?_
        intro g7 w hbg7 hp
        refine k_alt ?_ ?_
        ·
          refine k_call [.slice (some ⟨g2, 0 + 0 * 1, none⟩) a1.length (32 - 0)] rfl (by kernel_rfl) (args1 (Eq.trans (b := .slice (some ⟨g2, 0 + 0 * 1, none⟩) (32 - 0) (32 - 0)) rfl (congrArg (fun n => Value.slice (some ⟨g2, 0 + 0 * 1, none⟩) n (32 - 0)) (show (32 - 0) = a1.length from la1.symm)))) (scalar_reduce_ok k a1 g2 (0 + 0 * 1) ((32 - 0))  _ (hp.toR (fun r hr => by simp only [List.mem_cons, List.not_mem_nil, or_false] at hr; rcases hr with rfl | rfl; exact .inr (List.mem_of_getElem? (i := 0) rfl); exact .inl (List.mem_of_getElem? (i := 1) rfl))) qr6) ?_
          rintro _ w' ⟨_, rfl, rfl, lr60, hpc⟩
          refine ⟨_, rfl, .inr (.of_below hpc.chg.to_below), ?_⟩; have hp := hp.below hpc.chg.to_below; clear hpc
          refine k_alloc (ints .u64 (List.replicate 4 (0 : Int))) rfl (by kernel_rfl) hp ?_
          intro g8 w hbg8 hp
          refine k_storeA (v := .agg (ints .u64 r5).toArray) 4 0 (r := ⟨g7, 0, ints .u64 (List.replicate 4 (0 : Int))⟩) (ints .u64 r5) (ints .u64 r5) rfl (n := 4) (by kernel_rfl) rfl rfl rfl ((ints_length _ _).trans lr50) (ints_one _ _) hp rfl rfl rfl (Nat.le_of_eq ((Nat.zero_add _).trans ((ints_length _ _).trans List.length_replicate).symm)) (setMany_all _ _ (((ints_length _ _).trans lr50).trans ((ints_length _ _).trans List.length_replicate).symm)) (by decide) ?_; intro w hp
          refine k_storeA (v := .agg (ints .u64 r6).toArray) 5 0 (r := ⟨g8, 0, ints .u64 (List.replicate 4 (0 : Int))⟩) (ints .u64 r6) (ints .u64 r6) rfl (n := 4) (by kernel_rfl) rfl rfl rfl ((ints_length _ _).trans lr60) (ints_one _ _) hp rfl rfl rfl (Nat.le_of_eq ((Nat.zero_add _).trans ((ints_length _ _).trans List.length_replicate).symm)) (setMany_all _ _ (((ints_length _ _).trans lr60).trans ((ints_length _ _).trans List.length_replicate).symm)) (by decide) ?_; intro w hp
          refine k_endI ?_; intro e76 qe76
          exact ⟨g7, g8, lr50, lr60, (congrFun qe76 5).trans s5_e75, (congrFun qe76 6).trans s6_e75, congrFun qe76 7, congrFun qe76 8, hp⟩
        refine k_alloc (ints .u64 (List.replicate 4 (0 : Int))) rfl (by kernel_rfl) hp ?_
        intro g8 w hbg8 hp
        refine k_call [.slice (some ⟨g2, 0 + 0 * 1, none⟩) a1.length (32 - 0)] rfl (by kernel_rfl) (args1 (Eq.trans (b := .slice (some ⟨g2, 0 + 0 * 1, none⟩) (32 - 0) (32 - 0)) rfl (congrArg (fun n => Value.slice (some ⟨g2, 0 + 0 * 1, none⟩) n (32 - 0)) (show (32 - 0) = a1.length from la1.symm)))) (scalar_reduce_ok k a1 g2 (0 + 0 * 1) ((32 - 0))  _ (hp.toR (fun r hr => by simp only [List.mem_cons, List.not_mem_nil, or_false] at hr; rcases hr with rfl | rfl; exact .inr (List.mem_of_getElem? (i := 0) rfl); exact .inl (List.mem_of_getElem? (i := 1) rfl))) qr6) ?_
        rintro _ w' ⟨_, rfl, rfl, lr60, hpc⟩
        refine ⟨_, rfl, .inr (.of_below hpc.chg.to_below), ?_⟩; have hp := hp.below hpc.chg.to_below; clear hpc
        refine k_storeA (v := .agg (ints .u64 r5).toArray) 4 0 (r := ⟨g7, 0, ints .u64 (List.replicate 4 (0 : Int))⟩) (ints .u64 r5) (ints .u64 r5) rfl (n := 4) (by kernel_rfl) rfl rfl rfl ((ints_length _ _).trans lr50) (ints_one _ _) hp rfl rfl rfl (Nat.le_of_eq ((Nat.zero_add _).trans ((ints_length _ _).trans List.length_replicate).symm)) (setMany_all _ _ (((ints_length _ _).trans lr50).trans ((ints_length _ _).trans List.length_replicate).symm)) (by decide) ?_; intro w hp
        refine k_storeA (v := .agg (ints .u64 r6).toArray) 5 0 (r := ⟨g8, 0, ints .u64 (List.replicate 4 (0 : Int))⟩) (ints .u64 r6) (ints .u64 r6) rfl (n := 4) (by kernel_rfl) rfl rfl rfl ((ints_length _ _).trans lr60) (ints_one _ _) hp rfl rfl rfl (Nat.le_of_eq ((Nat.zero_add _).trans ((ints_length _ _).trans List.length_replicate).symm)) (setMany_all _ _ (((ints_length _ _).trans lr60).trans ((ints_length _ _).trans List.length_replicate).symm)) (by decide) ?_; intro w hp
        refine k_endI ?_; intro e76 qe76
        exact ⟨g7, g8, lr50, lr60, (congrFun qe76 5).trans s5_e75, (congrFun qe76 6).trans s6_e75, congrFun qe76 7, congrFun qe76 8, hp⟩
      refine k_alloc (ints .u64 (List.replicate 4 (0 : Int))) rfl (by kernel_rfl) hp ?_
      intro g8 w hbg8 hp
      refine k_alt ?_ ?_
      ·
        refine k_call [.slice (some ⟨g2, 0 + 0 * 1, none⟩) a1.length (32 - 0)] rfl (by kernel_rfl) (args1 (Eq.trans (b := .slice (some ⟨g2, 0 + 0 * 1, none⟩) (32 - 0) (32 - 0)) rfl (congrArg (fun n => Value.slice (some ⟨g2, 0 + 0 * 1, none⟩) n (32 - 0)) (show (32 - 0) = a1.length from la1.symm)))) (scalar_reduce_ok k a1 g2 (0 + 0 * 1) ((32 - 0))  _ (hp.toR (fun r hr => by simp only [List.mem_cons, List.not_mem_nil, or_false] at hr; rcases hr with rfl | rfl; exact .inr (List.mem_of_getElem? (i := 0) rfl); exact .inl (List.mem_of_getElem? (i := 1) rfl))) qr6) ?_
        rintro _ w' ⟨_, rfl, rfl, lr60, hpc⟩
        refine ⟨_, rfl, .inr (.of_below hpc.chg.to_below), ?_⟩; have hp := hp.below hpc.chg.to_below; clear hpc
        refine k_alloc (ints .u64 (List.replicate 4 (0 : Int))) rfl (by kernel_rfl) hp ?_
        intro g7 w hbg7 hp
        refine k_storeA (v := .agg (ints .u64 r5).toArray) 5 0 (r := ⟨g7, 0, ints .u64 (List.replicate 4 (0 : Int))⟩) (ints .u64 r5) (ints .u64 r5) rfl (n := 4) (by kernel_rfl) rfl rfl rfl ((ints_length _ _).trans lr50) (ints_one _ _) hp rfl rfl rfl (Nat.le_of_eq ((Nat.zero_add _).trans ((ints_length _ _).trans List.length_replicate).symm)) (setMany_all _ _ (((ints_length _ _).trans lr50).trans ((ints_length _ _).trans List.length_replicate).symm)) (by decide) ?_; intro w hp
        refine k_storeA (v := .agg (ints .u64 r6).toArray) 4 0 (r := ⟨g8, 0, ints .u64 (List.replicate 4 (0 : Int))⟩) (ints .u64 r6) (ints .u64 r6) rfl (n := 4) (by kernel_rfl) rfl rfl rfl ((ints_length _ _).trans lr60) (ints_one _ _) hp rfl rfl rfl (Nat.le_of_eq ((Nat.zero_add _).trans ((ints_length _ _).trans List.length_replicate).symm)) (setMany_all _ _ (((ints_length _ _).trans lr60).trans ((ints_length _ _).trans List.length_replicate).symm)) (by decide) ?_; intro w hp
        refine k_endI ?_; intro e76 qe76
        have hp := hp.swap 4
        exact ⟨g7, g8, lr50, lr60, (congrFun qe76 5).trans s5_e75, (congrFun qe76 6).trans s6_e75, congrFun qe76 7, congrFun qe76 8, hp⟩
      refine k_alloc (ints .u64 (List.replicate 4 (0 : Int))) rfl (by kernel_rfl) hp ?_
      intro g7 w hbg7 hp
      refine k_call [.slice (some ⟨g2, 0 + 0 * 1, none⟩) a1.length (32 - 0)] rfl (by kernel_rfl) (args1 (Eq.trans (b := .slice (some ⟨g2, 0 + 0 * 1, none⟩) (32 - 0) (32 - 0)) rfl (congrArg (fun n => Value.slice (some ⟨g2, 0 + 0 * 1, none⟩) n (32 - 0)) (show (32 - 0) = a1.length from la1.symm)))) (scalar_reduce_ok k a1 g2 (0 + 0 * 1) ((32 - 0))  _ (hp.toR (fun r hr => by simp only [List.mem_cons, List.not_mem_nil, or_false] at hr; rcases hr with rfl | rfl; exact .inr (List.mem_of_getElem? (i := 0) rfl); exact .inl (List.mem_of_getElem? (i := 1) rfl))) qr6) ?_
      rintro _ w' ⟨_, rfl, rfl, lr60, hpc⟩
      refine ⟨_, rfl, .inr (.of_below hpc.chg.to_below), ?_⟩; have hp := hp.below hpc.chg.to_below; clear hpc
      refine k_storeA (v := .agg (ints .u64 r5).toArray) 5 0 (r := ⟨g7, 0, ints .u64 (List.replicate 4 (0 : Int))⟩) (ints .u64 r5) (ints .u64 r5) rfl (n := 4) (by kernel_rfl) rfl rfl rfl ((ints_length _ _).trans lr50) (ints_one _ _) hp rfl rfl rfl (Nat.le_of_eq ((Nat.zero_add _).trans ((ints_length _ _).trans List.length_replicate).symm)) (setMany_all _ _ (((ints_length _ _).trans lr50).trans ((ints_length _ _).trans List.length_replicate).symm)) (by decide) ?_; intro w hp
      refine k_storeA (v := .agg (ints .u64 r6).toArray) 4 0 (r := ⟨g8, 0, ints .u64 (List.replicate 4 (0 : Int))⟩) (ints .u64 r6) (ints .u64 r6) rfl (n := 4) (by kernel_rfl) rfl rfl rfl ((ints_length _ _).trans lr60) (ints_one _ _) hp rfl rfl rfl (Nat.le_of_eq ((Nat.zero_add _).trans ((ints_length _ _).trans List.length_replicate).symm)) (setMany_all _ _ (((ints_length _ _).trans lr60).trans ((ints_length _ _).trans List.length_replicate).symm)) (by decide) ?_; intro w hp
      refine k_endI ?_; intro e76 qe76
      have hp := hp.swap 4
      exact ⟨g7, g8, lr50, lr60, (congrFun qe76 5).trans s5_e75, (congrFun qe76 6).trans s6_e75, congrFun qe76 7, congrFun qe76 8, hp⟩
    refine k_alt ?_ ?_
    ·
      refine k_alloc (ints .u64 (List.replicate 4 (0 : Int))) rfl (by kernel_rfl) hp ?_
      intro g7 w hbg7 hp
      refine k_alt ?_ ?_
      ·
        refine k_call [.slice (some ⟨g1, 0 + 0 * 1, none⟩) a0.length (32 - 0)] rfl (by kernel_rfl) (args1 (Eq.trans (b := .slice (some ⟨g1, 0 + 0 * 1, none⟩) (32 - 0) (32 - 0)) rfl (congrArg (fun n => Value.slice (some ⟨g1, 0 + 0 * 1, none⟩) n (32 - 0)) (show (32 - 0) = a0.length from la0.symm)))) (scalar_reduce_ok k a0 g1 (0 + 0 * 1) ((32 - 0))  _ (hp.toR (fun r hr => by simp only [List.mem_cons, List.not_mem_nil, or_false] at hr; rcases hr with rfl | rfl; exact .inr (List.mem_of_getElem? (i := 0) rfl); exact .inl (List.mem_of_getElem? (i := 0) rfl))) qr5) ?_
        rintro _ w' ⟨_, rfl, rfl, lr50, hpc⟩
        refine ⟨_, rfl, .inr (.of_below hpc.chg.to_below), ?_⟩; have hp := hp.below hpc.chg.to_below; clear hpc
        refine k_alt ?_ ?_
        ·
          refine k_call [.slice (some ⟨g2, 0 + 0 * 1, none⟩) a1.length (32 - 0)] rfl (by kernel_rfl) (args1 (Eq.trans (b := .slice (some ⟨g2, 0 + 0 * 1, none⟩) (32 - 0) (32 - 0)) rfl (congrArg (fun n => Value.slice (some ⟨g2, 0 + 0 * 1, none⟩) n (32 - 0)) (show (32 - 0) = a1.length from la1.symm)))) (scalar_reduce_ok k a1 g2 (0 + 0 * 1) ((32 - 0))  _ (hp.toR (fun r hr => by simp only [List.mem_cons, List.not_mem_nil, or_false] at hr; rcases hr with rfl | rfl; exact .inr (List.mem_of_getElem? (i := 0) rfl); exact .inl (List.mem_of_getElem? (i := 1) rfl))) qr6) ?_
          rintro _ w' ⟨_, rfl, rfl, lr60, hpc⟩
          refine ⟨_, rfl, .inr (.of_below hpc.chg.to_below), ?_⟩; have hp := hp.below hpc.chg.to_below; clear hpc
          refine k_alloc (ints .u64 (List.replicate 4 (0 : Int))) rfl (by kernel_rfl) hp ?_
          intro g8 w hbg8 hp
          refine k_storeA (v := .agg (ints .u64 r5).toArray) 4 0 (r := ⟨g7, 0, ints .u64 (List.replicate 4 (0 : Int))⟩) (ints .u64 r5) (ints .u64 r5) rfl (n := 4) (by kernel_rfl) rfl rfl rfl ((ints_length _ _).trans lr50) (ints_one _ _) hp rfl rfl rfl (Nat.le_of_eq ((Nat.zero_add _).trans ((ints_length _ _).trans List.length_replicate).symm)) (setMany_all _ _ (((ints_length _ _).trans lr50).trans ((ints_length _ _).trans List.length_replicate).symm)) (by decide) ?_; intro w hp
          refine k_storeA (v := .agg (ints .u64 r6).toArray) 5 0 (r := ⟨g8, 0, ints .u64 (List.replicate 4 (0 : Int))⟩) (ints .u64 r6) (ints .u64 r6) rfl (n := 4) (by kernel_rfl) rfl rfl rfl ((ints_length _ _).trans lr60) (ints_one _ _) hp rfl rfl rfl (Nat.le_of_eq ((Nat.zero_add _).trans ((ints_length _ _).trans List.length_replicate).symm)) (setMany_all _ _ (((ints_length _ _).trans lr60).trans ((ints_length _ _).trans List.length_replicate).symm)) (by decide) ?_; intro w hp
          refine k_endI ?_; intro e76 qe76
          exact ⟨g7, g8, lr50, lr60, (congrFun qe76 5).trans s5_e75, (congrFun qe76 6).trans s6_e75, congrFun qe76 7, congrFun qe76 8, hp⟩
        refine k_alloc (ints .u64 (List.replicate 4 (0 : Int))) rfl (by kernel_rfl) hp ?_
        intro g8 w hbg8 hp
        refine k_call [.slice (some ⟨g2, 0 + 0 * 1, none⟩) a1.length (32 - 0)] rfl (by kernel_rfl) (args1 (Eq.trans (b := .slice (some ⟨g2, 0 + 0 * 1, none⟩) (32 - 0) (32 - 0)) rfl (congrArg (fun n => Value.slice (some ⟨g2, 0 + 0 * 1, none⟩) n (32 - 0)) (show (32 - 0) = a1.length from la1.symm)))) (scalar_reduce_ok k a1 g2 (0 + 0 * 1) ((32 - 0))  _ (hp.toR (fun r hr => by simp only [List.mem_cons, List.not_mem_nil, or_false] at hr; rcases hr with rfl | rfl; exact .inr (List.mem_of_getElem? (i := 0) rfl); exact .inl (List.mem_of_getElem? (i := 1) rfl))) qr6) ?_
        rintro _ w' ⟨_, rfl, rfl, lr60, hpc⟩
        refine ⟨_, rfl, .inr (.of_below hpc.chg.to_below), ?_⟩; have hp := hp.below hpc.chg.to_below; clear hpc
        refine k_storeA (v := .agg (ints .u64 r5).toArray) 4 0 (r := ⟨g7, 0, ints .u64 (List.replicate 4 (0 : Int))⟩) (ints .u64 r5) (ints .u64 r5) rfl (n := 4) (by kernel_rfl) rfl rfl rfl ((ints_length _ _).trans lr50) (ints_one _ _) hp rfl rfl rfl (Nat.le_of_eq ((Nat.zero_add _).trans ((ints_length _ _).trans List.length_replicate).symm)) (setMany_all _ _ (((ints_length _ _).trans lr50).trans ((ints_length _ _).trans List.length_replicate).symm)) (by decide) ?_; intro w hp
        refine k_storeA (v := .agg (ints .u64 r6).toArray) 5 0 (r := ⟨g8, 0, ints .u64 (List.replicate 4 (0 : Int))⟩) (ints .u64 r6) (ints .u64 r6) rfl (n := 4) (by kernel_rfl) rfl rfl rfl ((ints_length _ _).trans lr60) (ints_one _ _) hp rfl rfl rfl (Nat.le_of_eq ((Nat.zero_add _).trans ((ints_length _ _).trans List.length_replicate).symm)) (setMany_all _ _ (((ints_length _ _).trans lr60).trans ((ints_length _ _).trans List.length_replicate).symm)) (by decide) ?_; intro w hp
        refine k_endI ?_; intro e76 qe76
        exact ⟨g7, g8, lr50, lr60, (congrFun qe76 5).trans s5_e75, (congrFun qe76 6).trans s6_e75, congrFun qe76 7, congrFun qe76 8, hp⟩
      refine k_alloc (ints .u64 (List.replicate 4 (0 : Int))) rfl (by kernel_rfl) hp ?_
      intro g8 w hbg8 hp
      refine k_call [.slice (some ⟨g1, 0 + 0 * 1, none⟩) a0.length (32 - 0)] rfl (by kernel_rfl) (args1 (Eq.trans (b := .slice (some ⟨g1, 0 + 0 * 1, none⟩) (32 - 0) (32 - 0)) rfl (congrArg (fun n => Value.slice (some ⟨g1, 0 + 0 * 1, none⟩) n (32 - 0)) (show (32 - 0) = a0.length from la0.symm)))) (scalar_reduce_ok k a0 g1 (0 + 0 * 1) ((32 - 0))  _ (hp.toR (fun r hr => by simp only [List.mem_cons, List.not_mem_nil, or_false] at hr; rcases hr with rfl | rfl; exact .inr (List.mem_of_getElem? (i := 0) rfl); exact .inl (List.mem_of_getElem? (i := 0) rfl))) qr5) ?_
      rintro _ w' ⟨_, rfl, rfl, lr50, hpc⟩
      refine ⟨_, rfl, .inr (.of_below hpc.chg.to_below), ?_⟩; have hp := hp.below hpc.chg.to_below; clear hpc
      refine k_call [.slice (some ⟨g2, 0 + 0 * 1, none⟩) a1.length (32 - 0)] rfl (by kernel_rfl) (args1 (Eq.trans (b := .slice (some ⟨g2, 0 + 0 * 1, none⟩) (32 - 0) (32 - 0)) rfl (congrArg (fun n => Value.slice (some ⟨g2, 0 + 0 * 1, none⟩) n (32 - 0)) (show (32 - 0) = a1.length from la1.symm)))) (scalar_reduce_ok k a1 g2 (0 + 0 * 1) ((32 - 0))  _ (hp.toR (fun r hr => by simp only [List.mem_cons, List.not_mem_nil, or_false] at hr; rcases hr with rfl | rfl; exact .inr (List.mem_of_getElem? (i := 0) rfl); exact .inl (List.mem_of_getElem? (i := 1) rfl))) qr6) ?_
      rintro _ w' ⟨_, rfl, rfl, lr60, hpc⟩
      refine ⟨_, rfl, .inr (.of_below hpc.chg.to_below), ?_⟩; have hp := hp.below hpc.chg.to_below; clear hpc
      refine k_storeA (v := .agg (ints .u64 r5).toArray) 4 0 (r := ⟨g7, 0, ints .u64 (List.replicate 4 (0 : Int))⟩) (ints .u64 r5) (ints .u64 r5) rfl (n := 4) (by kernel_rfl) rfl rfl rfl ((ints_length _ _).trans lr50) (ints_one _ _) hp rfl rfl rfl (Nat.le_of_eq ((Nat.zero_add _).trans ((ints_length _ _).trans List.length_replicate).symm)) (setMany_all _ _ (((ints_length _ _).trans lr50).trans ((ints_length _ _).trans List.length_replicate).symm)) (by decide) ?_; intro w hp
      refine k_storeA (v := .agg (ints .u64 r6).toArray) 5 0 (r := ⟨g8, 0, ints .u64 (List.replicate 4 (0 : Int))⟩) (ints .u64 r6) (ints .u64 r6) rfl (n := 4) (by kernel_rfl) rfl rfl rfl ((ints_length _ _).trans lr60) (ints_one _ _) hp rfl rfl rfl (Nat.le_of_eq ((Nat.zero_add _).trans ((ints_length _ _).trans List.length_replicate).symm)) (setMany_all _ _ (((ints_length _ _).trans lr60).trans ((ints_length _ _).trans List.length_replicate).symm)) (by decide) ?_; intro w hp
      refine k_endI ?_; intro e76 qe76
      exact ⟨g7, g8, lr50, lr60, (congrFun qe76 5).trans s5_e75, (congrFun qe76 6).trans s6_e75, congrFun qe76 7, congrFun qe76 8, hp⟩
    refine k_alloc (ints .u64 (List.replicate 4 (0 : Int))) rfl (by kernel_rfl) hp ?_
    intro g8 w hbg8 hp
    refine k_alt ?_ ?_
    ·
      refine k_call [.slice (some ⟨g1, 0 + 0 * 1, none⟩) a0.length (32 - 0)] rfl (by kernel_rfl) (args1 (Eq.trans (b := .slice (some ⟨g1, 0 + 0 * 1, none⟩) (32 - 0) (32 - 0)) rfl (congrArg (fun n => Value.slice (some ⟨g1, 0 + 0 * 1, none⟩) n (32 - 0)) (show (32 - 0) = a0.length from la0.symm)))) (scalar_reduce_ok k a0 g1 (0 + 0 * 1) ((32 - 0))  _ (hp.toR (fun r hr => by simp only [List.mem_cons, List.not_mem_nil, or_false] at hr; rcases hr with rfl | rfl; exact .inr (List.mem_of_getElem? (i := 0) rfl); exact .inl (List.mem_of_getElem? (i := 0) rfl))) qr5) ?_
      rintro _ w' ⟨_, rfl, rfl, lr50, hpc⟩
      refine ⟨_, rfl, .inr (.of_below hpc.chg.to_below), ?_⟩; have hp := hp.below hpc.chg.to_below; clear hpc
      refine k_alt ?_ ?_
      ·
        refine k_call [.slice (some ⟨g2, 0 + 0 * 1, none⟩) a1.length (32 - 0)] rfl (by kernel_rfl) (args1 (Eq.trans (b := .slice (some ⟨g2, 0 + 0 * 1, none⟩) (32 - 0) (32 - 0)) rfl (congrArg (fun n => Value.slice (some ⟨g2, 0 + 0 * 1, none⟩) n (32 - 0)) (show (32 - 0) = a1.length from la1.symm)))) (scalar_reduce_ok k a1 g2 (0 + 0 * 1) ((32 - 0))  _ (hp.toR (fun r hr => by simp only [List.mem_cons, List.not_mem_nil, or_false] at hr; rcases hr with rfl | rfl; exact .inr (List.mem_of_getElem? (i := 0) rfl); exact .inl (List.mem_of_getElem? (i := 1) rfl))) qr6) ?_
        rintro _ w' ⟨_, rfl, rfl, lr60, hpc⟩
        refine ⟨_, rfl, .inr (.of_below hpc.chg.to_below), ?_⟩; have hp := hp.below hpc.chg.to_below; clear hpc
        refine k_alloc (ints .u64 (List.replicate 4 (0 : Int))) rfl (by kernel_rfl) hp ?_
        intro g7 w hbg7 hp
        refine k_storeA (v := .agg (ints .u64 r5).toArray) 5 0 (r := ⟨g7, 0, ints .u64 (List.replicate 4 (0 : Int))⟩) (ints .u64 r5) (ints .u64 r5) rfl (n := 4) (by kernel_rfl) rfl rfl rfl ((ints_length _ _).trans lr50) (ints_one _ _) hp rfl rfl rfl (Nat.le_of_eq ((Nat.zero_add _).trans ((ints_length _ _).trans List.length_replicate).symm)) (setMany_all _ _ (((ints_length _ _).trans lr50).trans ((ints_length _ _).trans List.length_replicate).symm)) (by decide) ?_; intro w hp
        refine k_storeA (v := .agg (ints .u64 r6).toArray) 4 0 (r := ⟨g8, 0, ints .u64 (List.replicate 4 (0 : Int))⟩) (ints .u64 r6) (ints .u64 r6) rfl (n := 4) (by kernel_rfl) rfl rfl rfl ((ints_length _ _).trans lr60) (ints_one _ _) hp rfl rfl rfl (Nat.le_of_eq ((Nat.zero_add _).trans ((ints_length _ _).trans List.length_replicate).symm)) (setMany_all _ _ (((ints_length _ _).trans lr60).trans ((ints_length _ _).trans List.length_replicate).symm)) (by decide) ?_; intro w hp
        refine k_endI ?_; intro e76 qe76
        have hp := hp.swap 4
        exact ⟨g7, g8, lr50, lr60, (congrFun qe76 5).trans s5_e75, (congrFun qe76 6).trans s6_e75, congrFun qe76 7, congrFun qe76 8, hp⟩
      refine k_alloc (ints .u64 (List.replicate 4 (0 : Int))) rfl (by kernel_rfl) hp ?_
      intro g7 w hbg7 hp
      refine k_call [.slice (some ⟨g2, 0 + 0 * 1, none⟩) a1.length (32 - 0)] rfl (by kernel_rfl) (args1 (Eq.trans (b := .slice (some ⟨g2, 0 + 0 * 1, none⟩) (32 - 0) (32 - 0)) rfl (congrArg (fun n => Value.slice (some ⟨g2, 0 + 0 * 1, none⟩) n (32 - 0)) (show (32 - 0) = a1.length from la1.symm)))) (scalar_reduce_ok k a1 g2 (0 + 0 * 1) ((32 - 0))  _ (hp.toR (fun r hr => by simp only [List.mem_cons, List.not_mem_nil, or_false] at hr; rcases hr with rfl | rfl; exact .inr (List.mem_of_getElem? (i := 0) rfl); exact .inl (List.mem_of_getElem? (i := 1) rfl))) qr6) ?_
      rintro _ w' ⟨_, rfl, rfl, lr60, hpc⟩
      refine ⟨_, rfl, .inr (.of_below hpc.chg.to_below), ?_⟩; have hp := hp.below hpc.chg.to_below; clear hpc
      refine k_storeA (v := .agg (ints .u64 r5).toArray) 5 0 (r := ⟨g7, 0, ints .u64 (List.replicate 4 (0 : Int))⟩) (ints .u64 r5) (ints .u64 r5) rfl (n := 4) (by kernel_rfl) rfl rfl rfl ((ints_length _ _).trans lr50) (ints_one _ _) hp rfl rfl rfl (Nat.le_of_eq ((Nat.zero_add _).trans ((ints_length _ _).trans List.length_replicate).symm)) (setMany_all _ _ (((ints_length _ _).trans lr50).trans ((ints_length _ _).trans List.length_replicate).symm)) (by decide) ?_; intro w hp
      refine k_storeA (v := .agg (ints .u64 r6).toArray) 4 0 (r := ⟨g8, 0, ints .u64 (List.replicate 4 (0 : Int))⟩) (ints .u64 r6) (ints .u64 r6) rfl (n := 4) (by kernel_rfl) rfl rfl rfl ((ints_length _ _).trans lr60) (ints_one _ _) hp rfl rfl rfl (Nat.le_of_eq ((Nat.zero_add _).trans ((ints_length _ _).trans List.length_replicate).symm)) (setMany_all _ _ (((ints_length _ _).trans lr60).trans ((ints_length _ _).trans List.length_replicate).symm)) (by decide) ?_; intro w hp
      refine k_endI ?_; intro e76 qe76
      have hp := hp.swap 4
      exact ⟨g7, g8, lr50, lr60, (congrFun qe76 5).trans s5_e75, (congrFun qe76 6).trans s6_e75, congrFun qe76 7, congrFun qe76 8, hp⟩
    refine k_alloc (ints .u64 (List.replicate 4 (0 : Int))) rfl (by kernel_rfl) hp ?_
    intro g7 w hbg7 hp
    refine k_call [.slice (some ⟨g1, 0 + 0 * 1, none⟩) a0.length (32 - 0)] rfl (by kernel_rfl) (args1 (Eq.trans (b := .slice (some ⟨g1, 0 + 0 * 1, none⟩) (32 - 0) (32 - 0)) rfl (congrArg (fun n => Value.slice (some ⟨g1, 0 + 0 * 1, none⟩) n (32 - 0)) (show (32 - 0) = a0.length from la0.symm)))) (scalar_reduce_ok k a0 g1 (0 + 0 * 1) ((32 - 0))  _ (hp.toR (fun r hr => by simp only [List.mem_cons, List.not_mem_nil, or_false] at hr; rcases hr with rfl | rfl; exact .inr (List.mem_of_getElem? (i := 0) rfl); exact .inl (List.mem_of_getElem? (i := 0) rfl))) qr5) ?_
    rintro _ w' ⟨_, rfl, rfl, lr50, hpc⟩
    refine ⟨_, rfl, .inr (.of_below hpc.chg.to_below), ?_⟩; have hp := hp.below hpc.chg.to_below; clear hpc
    refine k_call [.slice (some ⟨g2, 0 + 0 * 1, none⟩) a1.length (32 - 0)] rfl (by kernel_rfl) (args1 (Eq.trans (b := .slice (some ⟨g2, 0 + 0 * 1, none⟩) (32 - 0) (32 - 0)) rfl (congrArg (fun n => Value.slice (some ⟨g2, 0 + 0 * 1, none⟩) n (32 - 0)) (show (32 - 0) = a1.length from la1.symm)))) (scalar_reduce_ok k a1 g2 (0 + 0 * 1) ((32 - 0))  _ (hp.toR (fun r hr => by simp only [List.mem_cons, List.not_mem_nil, or_false] at hr; rcases hr with rfl | rfl; exact .inr (List.mem_of_getElem? (i := 0) rfl); exact .inl (List.mem_of_getElem? (i := 1) rfl))) qr6) ?_
    rintro _ w' ⟨_, rfl, rfl, lr60, hpc⟩
    refine ⟨_, rfl, .inr (.of_below hpc.chg.to_below), ?_⟩; have hp := hp.below hpc.chg.to_below; clear hpc
    refine k_storeA (v := .agg (ints .u64 r5).toArray) 5 0 (r := ⟨g7, 0, ints .u64 (List.replicate 4 (0 : Int))⟩) (ints .u64 r5) (ints .u64 r5) rfl (n := 4) (by kernel_rfl) rfl rfl rfl ((ints_length _ _).trans lr50) (ints_one _ _) hp rfl rfl rfl (Nat.le_of_eq ((Nat.zero_add _).trans ((ints_length _ _).trans List.length_replicate).symm)) (setMany_all _ _ (((ints_length _ _).trans lr50).trans ((ints_length _ _).trans List.length_replicate).symm)) (by decide) ?_; intro w hp
    refine k_storeA (v := .agg (ints .u64 r6).toArray) 4 0 (r := ⟨g8, 0, ints .u64 (List.replicate 4 (0 : Int))⟩) (ints .u64 r6) (ints .u64 r6) rfl (n := 4) (by kernel_rfl) rfl rfl rfl ((ints_length _ _).trans lr60) (ints_one _ _) hp rfl rfl rfl (Nat.le_of_eq ((Nat.zero_add _).trans ((ints_length _ _).trans List.length_replicate).symm)) (setMany_all _ _ (((ints_length _ _).trans lr60).trans ((ints_length _ _).trans List.length_replicate).symm)) (by decide) ?_; intro w hp
    refine k_endI ?_; intro e76 qe76
    have hp := hp.swap 4
    exact ⟨g7, g8, lr50, lr60, (congrFun qe76 5).trans s5_e75, (congrFun qe76 6).trans s6_e75, congrFun qe76 7, congrFun qe76 8, hp⟩
  rintro e76 w ⟨g7, g8, lr50, lr60, s5_e76, s6_e76, s7_e76, s8_e76, hp⟩
  refine wseq rfl ?_
  refine wregion (.ef 0 (.done)) [] rfl (by kernel_rfl) (by kernel_rfl) ?_
  refine k_alloc (ints .u64 (List.replicate 8 (0 : Int))) rfl (by kernel_rfl) hp ?_
  intro g9 w hbg9 hp
  refine k_end ?_; intro e77 qe77
  have s5_e77 : e77 5 = .pointer (some ⟨g3, 0, none⟩) := (congrFun qe77 5).trans s5_e76
  have s6_e77 : e77 6 = .pointer (some ⟨g4, 0, none⟩) := (congrFun qe77 6).trans s6_e76
  have s7_e77 : e77 7 = .pointer (some ⟨g7, 0, none⟩) := (congrFun qe77 7).trans s7_e76
  have s8_e77 : e77 8 = .pointer (some ⟨g8, 0, none⟩) := (congrFun qe77 8).trans s8_e76
  have s9_e77 : e77 9 = .pointer (some ⟨g9, 0, none⟩) := congrFun qe77 9
  clear qe77
  refine wseq rfl ?_
  refine wseq rfl ?_
  refine wregion (.tp 0 (.done)) [] rfl (by kernel_rfl) (by kernel_rfl) ?_
  refine k_move (v := .int .i64 0) rfl rfl ?_
  refine k_end ?_; intro e78 qe78
  have s5_e78 : e78 5 = .pointer (some ⟨g3, 0, none⟩) := (congrFun qe78 5).trans s5_e77
  have s6_e78 : e78 6 = .pointer (some ⟨g4, 0, none⟩) := (congrFun qe78 6).trans s6_e77
  have s7_e78 : e78 7 = .pointer (some ⟨g7, 0, none⟩) := (congrFun qe78 7).trans s7_e77
  have s8_e78 : e78 8 = .pointer (some ⟨g8, 0, none⟩) := (congrFun qe78 8).trans s8_e77
  have s9_e78 : e78 9 = .pointer (some ⟨g9, 0, none⟩) := (congrFun qe78 9).trans s9_e77
  have s23_e78 : e78 23 = .int .i64 0 := congrFun qe78 23
  clear qe78
  refine wblock rfl ?_
  obtain ⟨r34, qr34, h⟩ := bd_e h
  refine wloop k rfl (scalar_MulAdd.p1_ok g1 g2 g3 g4 g7 g8 g9 a0 a1 a2 r5 r6 la0 la1 la2 lr50 lr60 ?hq0 k (List.replicate 8 (0 : Int)) 0 e78 _ List.length_replicate s5_e78 s6_e78 s7_e78 s8_e78 s9_e78 s23_e78 hp qr34)
  case hq0 =>
    intro e94 w m35 lm35 s5_e94 s6_e94 s9_e94 hp qq
    rw [qq] at h; clear qq
    refine wseq rfl ?_
    refine wregion (.ef 0 (.done)) [] rfl (by kernel_rfl) (by kernel_rfl) ?_
    refine k_alloc (ints .u8 (List.replicate 64 (0 : Int))) rfl (by kernel_rfl) hp ?_
    intro g36 w hbg36 hp
    refine k_end ?_; intro e95 qe95
    have s5_e95 : e95 5 = .pointer (some ⟨g3, 0, none⟩) := (congrFun qe95 5).trans s5_e94
    have s6_e95 : e95 6 = .pointer (some ⟨g4, 0, none⟩) := (congrFun qe95 6).trans s6_e94
    have s9_e95 : e95 9 = .pointer (some ⟨g9, 0, none⟩) := (congrFun qe95 9).trans s9_e94
    have s17_e95 : e95 17 = .pointer (some ⟨g36, 0, none⟩) := congrFun qe95 17
    clear qe95
    refine wseq rfl ?_
    refine wseq rfl ?_
    refine wregion (.tp 0 (.done)) [] rfl (by kernel_rfl) (by kernel_rfl) ?_
    refine k_move (v := .int .i64 0) rfl rfl ?_
    refine k_end ?_; intro e96 qe96
    have s5_e96 : e96 5 = .pointer (some ⟨g3, 0, none⟩) := (congrFun qe96 5).trans s5_e95
    have s6_e96 : e96 6 = .pointer (some ⟨g4, 0, none⟩) := (congrFun qe96 6).trans s6_e95
    have s9_e96 : e96 9 = .pointer (some ⟨g9, 0, none⟩) := (congrFun qe96 9).trans s9_e95
    have s17_e96 : e96 17 = .pointer (some ⟨g36, 0, none⟩) := (congrFun qe96 17).trans s17_e95
    have s71_e96 : e96 71 = .int .i64 0 := congrFun qe96 71
    clear qe96
    refine wblock rfl ?_
    obtain ⟨r43, qr43, h⟩ := bd_e h
    refine wloop k rfl (scalar_MulAdd.p3_ok g1 g2 g3 g36 g4 g7 g8 g9 a0 a1 a2 r5 r6 m35 la0 la1 la2 lr50 lr60 lm35 ?hq0 k (List.replicate 64 (0 : Int)) 0 e96 _ List.length_replicate s5_e96 s6_e96 s9_e96 s17_e96 s71_e96 hp qr43)
    case hq0 =>
      intro e101 w m44 lm44 s5_e101 s6_e101 s17_e101 hp qq
      rw [qq] at h; clear qq
      refine wseq rfl ?_
      refine wregion_d (.tp 0 (.tp 2 (.ef 1 (.ef 3 (.ef 4 (.ef 5 (.ef 6 (.ef 7 (.done))))))))) [7] rfl (by kernel_rfl) (by kernel_rfl) (Nat.le_of_ble_eq_true (by kernel_rfl)) (by kernel_rfl) ?_
      have hp := hp.drew
      refine k_sliceA (n := 64) (s := 1) (l := 0) (h' := 64) rfl Tryd.underlying24 (by kernel_rfl) s17_e101 rfl rfl (by decide) ?_
      refine k_sliceA (n := 32) (s := 1) (l := 0) (h' := 32) rfl Tryd.underlying22 (by kernel_rfl) s5_e101 rfl rfl (by decide) ?_
      obtain ⟨r45, qr45, h⟩ := bd_e h
      refine k_call [.slice (some ⟨g36, 0 + 0 * 1, none⟩) m44.length (64 - 0)] rfl (by kernel_rfl) (args1 (Eq.trans (b := .slice (some ⟨g36, 0 + 0 * 1, none⟩) (64 - 0) (64 - 0)) rfl (congrArg (fun n => Value.slice (some ⟨g36, 0 + 0 * 1, none⟩) n (64 - 0)) (show (64 - 0) = m44.length from lm44.symm)))) (scalar_reduce_ok k m44 g36 (0 + 0 * 1) ((64 - 0))  _ (hp.toR (fun r hr => by simp only [List.mem_cons, List.not_mem_nil, or_false] at hr; rcases hr with rfl | rfl; exact .inr (List.mem_of_getElem? (i := 0) rfl); exact .inl (List.mem_of_getElem? (i := 7) rfl))) qr45) ?_
      rintro _ w' ⟨_, rfl, rfl, lr450, hpc⟩
      refine ⟨_, rfl, .inr (.of_below hpc.chg.to_below), ?_⟩; have hp := hp.below hpc.chg.to_below; clear hpc
      obtain ⟨r46, qr46, h⟩ := bd_e h
      refine k_call [.slice (some ⟨g3, 0 + 0 * 1, none⟩) a2.length (32 - 0)] rfl (by kernel_rfl) (args1 (Eq.trans (b := .slice (some ⟨g3, 0 + 0 * 1, none⟩) (32 - 0) (32 - 0)) rfl (congrArg (fun n => Value.slice (some ⟨g3, 0 + 0 * 1, none⟩) n (32 - 0)) (show (32 - 0) = a2.length from la2.symm)))) (scalar_reduce_ok k a2 g3 (0 + 0 * 1) ((32 - 0))  _ (hp.toR (fun r hr => by simp only [List.mem_cons, List.not_mem_nil, or_false] at hr; rcases hr with rfl | rfl; exact .inr (List.mem_of_getElem? (i := 0) rfl); exact .inl (List.mem_of_getElem? (i := 2) rfl))) qr46) ?_
      rintro _ w' ⟨_, rfl, rfl, lr460, hpc⟩
      refine ⟨_, rfl, .inr (.of_below hpc.chg.to_below), ?_⟩; have hp := hp.below hpc.chg.to_below; clear hpc
      obtain ⟨r47, qr47, h⟩ := bd_e h
      refine k_call [.agg (ints .u64 r45).toArray, .agg (ints .u64 r46).toArray] rfl (by kernel_rfl) (args2 rfl rfl) (scalar_number_add_ok k r45 r46 lr450 lr460 _ (hp.toR (fun r hr => by rw [List.mem_singleton] at hr; subst hr; exact .inr (List.mem_of_getElem? (i := 0) rfl))) qr47) ?_
      rintro _ w' ⟨_, rfl, rfl, lr470, hpc⟩
      refine ⟨_, rfl, .inr (.of_below hpc.chg.to_below), ?_⟩; have hp := hp.below hpc.chg.to_below; clear hpc
      obtain ⟨r48, qr48, h⟩ := bd_e h
      refine k_call [.agg (ints .u64 r47).toArray] rfl (by kernel_rfl) (args1 rfl) (scalar_number_less_ok k r47 lr470 _ (hp.toR (fun r hr => by rw [List.mem_singleton] at hr; subst hr; exact .inr (List.mem_of_getElem? (i := 0) rfl))) qr48) ?_
      rintro _ w' ⟨_, rfl, rfl, lr480, hpc⟩
      refine ⟨_, rfl, .inr (.of_below hpc.chg.to_below), ?_⟩; have hp := hp.below hpc.chg.to_below; clear hpc
      obtain ⟨r49, qr49, h⟩ := bd_e h
      refine k_call [.agg (ints .u64 r48).toArray] rfl (by kernel_rfl) (args1 rfl) (scalar_number_bytes_ok k r48 lr480 _ (hp.toR (fun r hr => by rw [List.mem_singleton] at hr; subst hr; exact .inr (List.mem_of_getElem? (i := 0) rfl))) qr49) ?_
      rintro _ w' ⟨_, rfl, rfl, lr490, hpc⟩
      refine ⟨_, rfl, .inr (.of_below hpc.chg.to_below), ?_⟩; have hp := hp.below hpc.chg.to_below; clear hpc
      refine k_storeA (v := .agg (ints .u8 r49).toArray) 3 0 (r := ⟨g4, 0, ints .u8 (List.replicate 32 (0 : Int))⟩) (ints .u8 r49) (ints .u8 r49) rfl (n := 32) (by kernel_rfl) s6_e101 rfl rfl ((ints_length _ _).trans lr490) (ints_one _ _) hp rfl rfl rfl (Nat.le_of_eq ((Nat.zero_add _).trans ((ints_length _ _).trans List.length_replicate).symm)) (setMany_all _ _ (((ints_length _ _).trans lr490).trans ((ints_length _ _).trans List.length_replicate).symm)) (by decide) ?_; intro w hp
      refine k_end ?_; intro e102 qe102
      have s6_e102 : e102 6 = .pointer (some ⟨g4, 0, none⟩) := (congrFun qe102 6).trans s6_e101
      clear qe102
      refine wret rfl ?_
      have hr : r = r49 := (Option.some.inj h).symm
      show RetP _ _ _ _ _
      rw [hr]
      exact ret_i [.agg (ints .u8 r49).toArray] (res_cell s6_e102 (loadVar_agg (by kernel_rfl) (by kernel_rfl) ((ints_length _ _).trans lr490) (hp.get (j := 3) rfl) rfl rfl rfl) res_nil) ⟨rfl, lr490, hp.none⟩
/-! 12 postilion/scalar.Canonical -/
theorem scalar_Canonical_ok (k : Nat) (a0 : List Int) (la0 : a0.length = 32) (w0 : World) (hp : Hp w0 [] w0 [] [⟨0, 0, ints .u64 [6346243789798364141, 1503914060200516822, 0, 1152921504606846976]⟩]) {r : Bool} (h : scalar_Canonical.f k a0 = some r) :
    Calls Tryd.prog 12 [.agg (ints .u8 a0).toArray].toArray w0 fun x w' => ∃ v, x = .returned v ∧ v = .bool r ∧ Hp w0 [] w' [] [⟨0, 0, ints .u64 [6346243789798364141, 1503914060200516822, 0, 1152921504606846976]⟩] := by
  refine calls_in Tryd.func12 rfl (Nat.le_of_ble_eq_true (by kernel_rfl)) (by kernel_rfl) ?_
  intro e0 qe0
  have s0_e0 : e0 0 = .agg (ints .u8 a0).toArray := congrFun qe0 0
  clear qe0
  unfold scalar_Canonical.f at h
  refine wseq rfl ?_
  refine wregion (.ef 0 (.tp 1 (.done))) [] rfl (by kernel_rfl) (by kernel_rfl) ?_
  refine k_box (v := .agg (ints .u8 a0).toArray) (ints .u8 a0) rfl s0_e0 rfl hp ?_
  intro g1 w hbg1 hp
  refine k_assign (v := .bool false) rfl rfl ?_
  refine k_end ?_; intro e103 qe103
  have s1_e103 : e103 1 = .pointer (some ⟨g1, 0, none⟩) := congrFun qe103 1
  clear qe103
  refine wseq rfl ?_
  refine wregion_d (.tp 0 (.tk 3 (.ef 1 (.ef 2 (.tp 4 (.tp 5 (.done))))))) [] rfl (by kernel_rfl) (by kernel_rfl) (Nat.le_of_ble_eq_true (by kernel_rfl)) (by kernel_rfl) ?_
  have hp := hp.drew
  refine k_sliceA (n := 32) (s := 1) (l := 0) (h' := 32) rfl Tryd.underlying22 (by kernel_rfl) s1_e103 rfl rfl (by decide) ?_
  refine k_loadA (n := 32) (xs := ints .u8 a0) 0 rfl (by kernel_rfl) (by kernel_rfl) s1_e103 (hp.get (j := 0) rfl) rfl rfl ((ints_length _ _).trans la0) (fun m v hm => by rw [Nat.zero_add]; exact hm) ?_
  obtain ⟨r2, qr2, h⟩ := bd_e h
  refine k_call [.slice (some ⟨g1, 0 + 0 * 1, none⟩) a0.length (32 - 0)] rfl (by kernel_rfl) (args1 (Eq.trans (b := .slice (some ⟨g1, 0 + 0 * 1, none⟩) (32 - 0) (32 - 0)) rfl (congrArg (fun n => Value.slice (some ⟨g1, 0 + 0 * 1, none⟩) n (32 - 0)) (show (32 - 0) = a0.length from la0.symm)))) (scalar_reduce_ok k a0 g1 (0 + 0 * 1) ((32 - 0))  _ (hp.toR (fun r hr => by simp only [List.mem_cons, List.not_mem_nil, or_false] at hr; rcases hr with rfl | rfl; exact .inr (List.mem_of_getElem? (i := 0) rfl); exact .inl (List.mem_of_getElem? (i := 0) rfl))) qr2) ?_
  rintro _ w' ⟨_, rfl, rfl, lr20, hpc⟩
  refine ⟨_, rfl, .inr (.of_below hpc.chg.to_below), ?_⟩; have hp := hp.below hpc.chg.to_below; clear hpc
  obtain ⟨r3, qr3, h⟩ := bd_e h
  refine k_call [.agg (ints .u64 r2).toArray] rfl (by kernel_rfl) (args1 rfl) (scalar_number_bytes_ok k r2 lr20 _ (hp.toR (fun r hr => by rw [List.mem_singleton] at hr; subst hr; exact .inr (List.mem_of_getElem? (i := 0) rfl))) qr3) ?_
  rintro _ w' ⟨_, rfl, rfl, lr30, hpc⟩
  refine ⟨_, rfl, .inr (.of_below hpc.chg.to_below), ?_⟩; have hp := hp.below hpc.chg.to_below; clear hpc
  refine k_eqI (k := .u8) (l := r3) (l' := a0) rfl Tryd.underlying22 Tryd.underlying5 (by kernel_rfl) (by kernel_rfl) rfl rfl lr30 la0 ?_
  refine k_assign (v := .bool (r3 == a0)) rfl rfl ?_
  refine k_end ?_; intro e104 qe104
  have s2_e104 : e104 2 = .bool (r3 == a0) := congrFun qe104 2
  clear qe104
  refine wret rfl ?_
  have hr : r = (r3 == a0) := (Option.some.inj h).symm
  show RetP _ _ _ _ _
  rw [hr]
  exact ret_i [.bool (r3 == a0)] (res_tmp s2_e104 res_nil) ⟨rfl, hp.none⟩
/-! 7 postilion/postilionlaw05.awake -/
theorem postilionlaw05_awake.p1_ok {w0 : World} {Ws : List Wr} {Q : Exit → Env → World → Prop} (k : Nat)   {r : Bool} (hQ0 : ∀ (e' : Env) (w' : World) (z0 : Bool), e' 0 = .bool z0 → Hp w0 Ws w' [] [⟨0, 0, ints .u64 [6346243789798364141, 1503914060200516822, 0, 1152921504606846976]⟩] → r = (z0) → Q .normal e' w') (e : Env) (w : World)  (hp : Hp w0 Ws w [] [⟨0, 0, ints .u64 [6346243789798364141, 1503914060200516822, 0, 1152921504606846976]⟩]) (h : postilionlaw05_awake.p1 k  = some r) : Wp Tryd.prog Tryd.f7.ntmps (at_ (fbody Tryd.f7) [1, 0]) Q e w := by
  unfold postilionlaw05_awake.p1 at h
  refine wregion (.tp 0 (.tp 1 (.tp 2 (.ef 3 (.tp 4 (.tp 5 (.tp 6 (.tp 7 (.ef 8 (.tp 9 (.tp 10 (.done)))))))))))) [] rfl (by kernel_rfl) (by kernel_rfl) ?_
  refine k_build (v := .agg (ints .u8 ((List.replicate 32 (0 : Int)).set 0 2)).toArray) rfl (fun _ => by kernel_rfl) ?_
  refine k_build (v := .agg (ints .u8 ((List.replicate 32 (0 : Int)).set 0 3)).toArray) rfl (fun _ => by kernel_rfl) ?_
  refine k_build (v := .agg (ints .u8 ((List.replicate 32 (0 : Int)).set 0 4)).toArray) rfl (fun _ => by kernel_rfl) ?_
  obtain ⟨r1, qr1, h⟩ := bd_e h
  refine k_call [.agg (ints .u8 ((List.replicate 32 (0 : Int)).set 0 2)).toArray, .agg (ints .u8 ((List.replicate 32 (0 : Int)).set 0 3)).toArray, .agg (ints .u8 ((List.replicate 32 (0 : Int)).set 0 4)).toArray] rfl (by kernel_rfl) (args3 rfl rfl rfl) (scalar_MulAdd_ok k ((List.replicate 32 (0 : Int)).set 0 2) ((List.replicate 32 (0 : Int)).set 0 3) ((List.replicate 32 (0 : Int)).set 0 4) (List.length_set.trans List.length_replicate) (List.length_set.trans List.length_replicate) (List.length_set.trans List.length_replicate) _ (hp.toR (fun r hr => by rw [List.mem_singleton] at hr; subst hr; exact .inr (List.mem_of_getElem? (i := 0) rfl))) qr1) ?_
  rintro _ w' ⟨_, rfl, rfl, lr10, hpc⟩
  refine ⟨_, rfl, .inr (.of_below hpc.chg.to_below), ?_⟩; have hp := hp.below hpc.chg.to_below; clear hpc
  refine k_build (v := .agg (ints .u8 ((List.replicate 32 (0 : Int)).set 0 10)).toArray) rfl (fun _ => by kernel_rfl) ?_
  refine k_eqI (k := .u8) (l := r1) (l' := ((List.replicate 32 (0 : Int)).set 0 10)) rfl Tryd.underlying22 Tryd.underlying5 (by kernel_rfl) (by kernel_rfl) rfl rfl lr10 (List.length_set.trans List.length_replicate) ?_
  rcases Bool.eq_false_or_eq_true (r1 == ((List.replicate 32 (0 : Int)).set 0 10)) with hb | hb
  · replace h := br_t hb h
    refine k_move (v := .bool true) rfl (Eq.trans (b := .bool (r1 == ((List.replicate 32 (0 : Int)).set 0 10))) rfl (congrArg Value.bool hb)) ?_
    refine k_build (v := .agg (ints .u8 ((List.replicate 32 (0 : Int)).set 0 1)).toArray) rfl (fun _ => by kernel_rfl) ?_
    obtain ⟨r2, qr2, h⟩ := bd_e h
    refine k_call [.agg (ints .u8 ((List.replicate 32 (0 : Int)).set 0 1)).toArray] rfl (by kernel_rfl) (args1 rfl) (scalar_Canonical_ok k ((List.replicate 32 (0 : Int)).set 0 1) (List.length_set.trans List.length_replicate) _ (hp.toR (fun r hr => by rw [List.mem_singleton] at hr; subst hr; exact .inr (List.mem_of_getElem? (i := 0) rfl))) qr2) ?_
    rintro _ w' ⟨_, rfl, rfl, hpc⟩
    refine ⟨_, rfl, .inr (.of_below hpc.chg.to_below), ?_⟩; have hp := hp.below hpc.chg.to_below; clear hpc
    refine k_pick (b := true) (v := .bool r2) rfl rfl rfl rfl rfl ?_
    refine k_assign (v := .bool r2) rfl rfl ?_
    refine k_end ?_; intro e106 qe106
    have s0_e106 : e106 0 = .bool r2 := congrFun qe106 0
    clear qe106
    exact hQ0 _ _ r2  s0_e106 (hp.drop (L' := []) (List.Sublist.refl _)) (Option.some.inj h).symm
  · replace h := br_f hb h
    refine k_move (v := .bool false) rfl (Eq.trans (b := .bool (r1 == ((List.replicate 32 (0 : Int)).set 0 10))) rfl (congrArg Value.bool hb)) ?_
    refine k_skip rfl ?_
    refine k_skip_ef rfl ?_
    refine k_pick (b := false) (v := .bool false) rfl rfl rfl rfl rfl ?_
    refine k_assign (v := .bool false) rfl rfl ?_
    refine k_end ?_; intro e107 qe107
    have s0_e107 : e107 0 = .bool false := congrFun qe107 0
    clear qe107
    exact hQ0 _ _ false  s0_e107 (hp.drop (L' := []) (List.Sublist.refl _)) (Option.some.inj h).symm
theorem postilionlaw05_awake_ok (k : Nat)  (w0 : World) (hp : Hp w0 [] w0 [] [⟨0, 0, ints .u64 [6346243789798364141, 1503914060200516822, 0, 1152921504606846976]⟩]) {r : Bool} (h : postilionlaw05_awake.f k  = some r) :
    Calls Tryd.prog 7 [].toArray w0 fun x w' => ∃ v, x = .returned v ∧ v = .bool r ∧ Hp w0 [] w' [] [⟨0, 0, ints .u64 [6346243789798364141, 1503914060200516822, 0, 1152921504606846976]⟩] := by
  refine calls_in Tryd.func7 rfl (Nat.le_of_ble_eq_true (by kernel_rfl)) (by kernel_rfl) ?_
  intro e0 qe0
  clear qe0
  unfold postilionlaw05_awake.f at h
  refine wseq rfl ?_
  refine wregion (.tp 0 (.done)) [] rfl (by kernel_rfl) (by kernel_rfl) ?_
  refine k_assign (v := .bool false) rfl rfl ?_
  refine k_end ?_; intro e105 qe105
  clear qe105
  refine wseq rfl ?_
  obtain ⟨r3, qr3, h⟩ := bd_e h
  refine postilionlaw05_awake.p1_ok k    ?hq0 e105 _  hp qr3
  case hq0 =>
    intro e108 w m4  s0_e108 hp qq
    rw [qq] at h; clear qq
    refine wret rfl ?_
    have hr : r = m4 := (Option.some.inj h).symm
    show RetP _ _ _ _ _
    rw [hr]
    exact ret_i [.bool m4] (res_tmp s0_e108 res_nil) ⟨rfl, hp.none⟩
/-! 8 postilion/scalar.Reduce -/
theorem scalar_Reduce_ok (k : Nat) (a0 : List Int) (la0 : a0.length = 64) (w0 : World) (hp : Hp w0 [] w0 [] [⟨0, 0, ints .u64 [6346243789798364141, 1503914060200516822, 0, 1152921504606846976]⟩]) {r : List Int} (h : scalar_Reduce.f k a0 = some r) :
    Calls Tryd.prog 8 [.agg (ints .u8 a0).toArray].toArray w0 fun x w' => ∃ v, x = .returned v ∧ v = .agg (ints .u8 r).toArray ∧ r.length = 32 ∧ Hp w0 [] w' [] [⟨0, 0, ints .u64 [6346243789798364141, 1503914060200516822, 0, 1152921504606846976]⟩] := by
  refine calls_in Tryd.func8 rfl (Nat.le_of_ble_eq_true (by kernel_rfl)) (by kernel_rfl) ?_
  intro e0 qe0
  have s0_e0 : e0 0 = .agg (ints .u8 a0).toArray := congrFun qe0 0
  clear qe0
  unfold scalar_Reduce.f at h
  refine wseq rfl ?_
  refine wregion (.ef 0 (.ef 1 (.done))) [] rfl (by kernel_rfl) (by kernel_rfl) ?_
  refine k_box (v := .agg (ints .u8 a0).toArray) (ints .u8 a0) rfl s0_e0 rfl hp ?_
  intro g1 w hbg1 hp
  refine k_alloc (ints .u8 (List.replicate 32 (0 : Int))) rfl (by kernel_rfl) hp ?_
  intro g2 w hbg2 hp
  refine k_end ?_; intro e109 qe109
  have s1_e109 : e109 1 = .pointer (some ⟨g1, 0, none⟩) := congrFun qe109 1
  have s2_e109 : e109 2 = .pointer (some ⟨g2, 0, none⟩) := congrFun qe109 2
  clear qe109
  refine wseq rfl ?_
  refine wregion (.tp 0 (.ef 1 (.ef 2 (.ef 3 (.done))))) [3] rfl (by kernel_rfl) (by kernel_rfl) ?_
  refine k_sliceA (n := 64) (s := 1) (l := 0) (h' := 64) rfl Tryd.underlying24 (by kernel_rfl) s1_e109 rfl rfl (by decide) ?_
  obtain ⟨r3, qr3, h⟩ := bd_e h
  refine k_call [.slice (some ⟨g1, 0 + 0 * 1, none⟩) a0.length (64 - 0)] rfl (by kernel_rfl) (args1 (Eq.trans (b := .slice (some ⟨g1, 0 + 0 * 1, none⟩) (64 - 0) (64 - 0)) rfl (congrArg (fun n => Value.slice (some ⟨g1, 0 + 0 * 1, none⟩) n (64 - 0)) (show (64 - 0) = a0.length from la0.symm)))) (scalar_reduce_ok k a0 g1 (0 + 0 * 1) ((64 - 0))  _ (hp.toR (fun r hr => by simp only [List.mem_cons, List.not_mem_nil, or_false] at hr; rcases hr with rfl | rfl; exact .inr (List.mem_of_getElem? (i := 0) rfl); exact .inl (List.mem_of_getElem? (i := 0) rfl))) qr3) ?_
  rintro _ w' ⟨_, rfl, rfl, lr30, hpc⟩
  refine ⟨_, rfl, .inr (.of_below hpc.chg.to_below), ?_⟩; have hp := hp.below hpc.chg.to_below; clear hpc
  obtain ⟨r4, qr4, h⟩ := bd_e h
  refine k_call [.agg (ints .u64 r3).toArray] rfl (by kernel_rfl) (args1 rfl) (scalar_number_bytes_ok k r3 lr30 _ (hp.toR (fun r hr => by rw [List.mem_singleton] at hr; subst hr; exact .inr (List.mem_of_getElem? (i := 0) rfl))) qr4) ?_
  rintro _ w' ⟨_, rfl, rfl, lr40, hpc⟩
  refine ⟨_, rfl, .inr (.of_below hpc.chg.to_below), ?_⟩; have hp := hp.below hpc.chg.to_below; clear hpc
  refine k_storeA (v := .agg (ints .u8 r4).toArray) 1 0 (r := ⟨g2, 0, ints .u8 (List.replicate 32 (0 : Int))⟩) (ints .u8 r4) (ints .u8 r4) rfl (n := 32) (by kernel_rfl) s2_e109 rfl rfl ((ints_length _ _).trans lr40) (ints_one _ _) hp rfl rfl rfl (Nat.le_of_eq ((Nat.zero_add _).trans ((ints_length _ _).trans List.length_replicate).symm)) (setMany_all _ _ (((ints_length _ _).trans lr40).trans ((ints_length _ _).trans List.length_replicate).symm)) (by decide) ?_; intro w hp
  refine k_end ?_; intro e110 qe110
  have s2_e110 : e110 2 = .pointer (some ⟨g2, 0, none⟩) := (congrFun qe110 2).trans s2_e109
  clear qe110
  refine wret rfl ?_
  have hr : r = r4 := (Option.some.inj h).symm
  show RetP _ _ _ _ _
  rw [hr]
  exact ret_i [.agg (ints .u8 r4).toArray] (res_cell s2_e110 (loadVar_agg (by kernel_rfl) (by kernel_rfl) ((ints_length _ _).trans lr40) (hp.get (j := 1) rfl) rfl rfl rfl) res_nil) ⟨rfl, lr40, hp.none⟩
/-! 3 postilion/postilionlaw05.ScalarReduces -/
theorem postilionlaw05_ScalarReduces.p1_ok {w0 : World} {Ws : List Wr} {Q : Exit → Env → World → Prop} (g1 g2 g4 g5 : Nat) (a0 : List Int) (a1 : List Int) (l_a0 : a0.length = 32) (l_a1 : a1.length = 32) {r : List Int} (hQ0 : ∀ (e' : Env) (w' : World) (z0 : List Int), z0.length = 64 → e' 2 = .pointer (some ⟨g1, 0, none⟩) → e' 3 = .pointer (some ⟨g2, 0, none⟩) → e' 5 = .pointer (some ⟨g4, 0, none⟩) → e' 6 = .pointer (some ⟨g5, 0, none⟩) → Hp w0 Ws w' [⟨g1, 0, ints .u8 a0⟩, ⟨g2, 0, ints .u8 a1⟩, ⟨g4, 0, ints .u8 z0⟩, ⟨g5, 0, ints .u8 (List.replicate 64 (0 : Int))⟩] [⟨0, 0, ints .u64 [6346243789798364141, 1503914060200516822, 0, 1152921504606846976]⟩] → r = (z0) → Q (.exit 0) e' w') : ∀ (k : Nat), ∀ (y6 : List Int) (y7 : Int) (e : Env) (w : World) (ly6 : y6.length = 64) (s2_e : e 2 = .pointer (some ⟨g1, 0, none⟩)) (s3_e : e 3 = .pointer (some ⟨g2, 0, none⟩)) (s5_e : e 5 = .pointer (some ⟨g4, 0, none⟩)) (s6_e : e 6 = .pointer (some ⟨g5, 0, none⟩)) (s10_e : e 10 = .int .i64 y7) (hp : Hp w0 Ws w [⟨g1, 0, ints .u8 a0⟩, ⟨g2, 0, ints .u8 a1⟩, ⟨g4, 0, ints .u8 y6⟩, ⟨g5, 0, ints .u8 (List.replicate 64 (0 : Int))⟩] [⟨0, 0, ints .u64 [6346243789798364141, 1503914060200516822, 0, 1152921504606846976]⟩]) (h : postilionlaw05_ScalarReduces.p1 k a0 a1 y6 y7 = some r), Lp Tryd.prog Tryd.f3.ntmps (at_ (fbody Tryd.f3) [1, 1, 1, 0, 1, 0, 0]) Q k e w := by
  intro k
  induction k with
  | zero => intro y6 y7 e w ly6 s2_e s3_e s5_e s6_e s10_e hp h; cases h
  | succ k ih =>
    intro y6 y7 e w ly6 s2_e s3_e s5_e s6_e s10_e hp h
    unfold postilionlaw05_ScalarReduces.p1 at h
    show Wp _ _ _ _ _ _
    refine wseq rfl ?_
    refine wregion (.tp 0 (.done)) [] rfl (by kernel_rfl) (by kernel_rfl) ?_
    refine k_bin (X := .int .i64 y7) (Y := .int .i64 32) rfl s10_e rfl rfl ?_
    refine k_end ?_; intro e116 qe116
    have s2_e116 : e116 2 = .pointer (some ⟨g1, 0, none⟩) := (congrFun qe116 2).trans s2_e
    have s3_e116 : e116 3 = .pointer (some ⟨g2, 0, none⟩) := (congrFun qe116 3).trans s3_e
    have s5_e116 : e116 5 = .pointer (some ⟨g4, 0, none⟩) := (congrFun qe116 5).trans s5_e
    have s6_e116 : e116 6 = .pointer (some ⟨g5, 0, none⟩) := (congrFun qe116 6).trans s6_e
    have s10_e116 : e116 10 = .int .i64 y7 := (congrFun qe116 10).trans s10_e
    have s11_e116 : e116 11 = .bool (decide (y7 < 32)) := congrFun qe116 11
    clear qe116
    refine wseq rfl ?_
    refine wcond (t := (decide (y7 < 32))) rfl (by decide) s11_e116 (fun hb => ?_) (fun hb => ?_)
    · replace h := br_t hb h
      refine wskip rfl ?_
      refine wseq rfl ?_
      refine wblock rfl ?_
      refine wseq rfl ?_
      refine wregion (.tp 0 (.tp 1 (.done))) [] rfl (by kernel_rfl) (by kernel_rfl) ?_
      refine k_move (v := .int .i64 y7) rfl s10_e116 ?_
      refine k_assign (v := .int .i64 y7) rfl rfl ?_
      refine k_end ?_; intro e117 qe117
      have s2_e117 : e117 2 = .pointer (some ⟨g1, 0, none⟩) := (congrFun qe117 2).trans s2_e116
      have s3_e117 : e117 3 = .pointer (some ⟨g2, 0, none⟩) := (congrFun qe117 3).trans s3_e116
      have s5_e117 : e117 5 = .pointer (some ⟨g4, 0, none⟩) := (congrFun qe117 5).trans s5_e116
      have s6_e117 : e117 6 = .pointer (some ⟨g5, 0, none⟩) := (congrFun qe117 6).trans s6_e116
      have s7_e117 : e117 7 = .int .i64 y7 := congrFun qe117 7
      have s10_e117 : e117 10 = .int .i64 y7 := (congrFun qe117 10).trans s10_e116
      clear qe117
      obtain ⟨c8, h⟩ := chk_e h
      obtain ⟨c9, h⟩ := chk_e h
      obtain ⟨c10, h⟩ := chk_e h
      obtain ⟨c11, h⟩ := chk_e h
      refine wcut (fun e118 w2 => e118 2 = .pointer (some ⟨g1, 0, none⟩) ∧ e118 3 = .pointer (some ⟨g2, 0, none⟩) ∧ e118 5 = .pointer (some ⟨g4, 0, none⟩) ∧ e118 6 = .pointer (some ⟨g5, 0, none⟩) ∧ e118 10 = .int .i64 y7 ∧ Hp w0 Ws w2 [⟨g1, 0, ints .u8 a0⟩, ⟨g2, 0, ints .u8 a1⟩, ⟨g4, 0, ints .u8 ((y6.set (y7 : Int).toNat (a0.getD (y7 : Int).toNat 0)).set ((IntKind.i64.wrap (32 + y7)) : Int).toNat (a1.getD (y7 : Int).toNat 0))⟩, ⟨g5, 0, ints .u8 (List.replicate 64 (0 : Int))⟩] [⟨0, 0, ints .u64 [6346243789798364141, 1503914060200516822, 0, 1152921504606846976]⟩]) ?_ ?_
      rotate_left
      · refine wregion_d (.tp 0 (.tp 1 (.tp 2 (.tp 3 (.tp 4 (.tk 5 (.tp 6 (.tp 7 (.tp 9 (.alt (.ef 8 (.ef 10 (.tp 11 (.ef 12 (.done))))) (.ef 10 (.tk 8 (.tp 11 (.ef 12 (.done))))))))))))))) [10, 12] rfl (by kernel_rfl) (by kernel_rfl) (Nat.le_of_ble_eq_true (by kernel_rfl)) (by kernel_rfl) ?_
        have hp := hp.drew
        refine k_move (v := .int .i64 y7) rfl s7_e117 ?_
        refine k_move (v := .int .i64 y7) rfl s7_e117 ?_
        refine k_bin (X := .int .i64 32) (Y := .int .i64 y7) rfl rfl rfl rfl ?_
        refine k_move (v := .int .i64 y7) rfl s7_e117 ?_
        refine k_indexA (n := 32) (s := 1) (j := y7) rfl Tryd.underlying22 (by kernel_rfl) s2_e117 rfl c8 ?_
        refine k_load (j := (y7 : Int).toNat) (v := .int .u8 (a0.getD (y7 : Int).toNat 0)) rfl (by kernel_rfl) rfl (hp.get (j := 0) rfl) rfl (show 0 + (y7 : Int).toNat * 1 = 0 + (y7 : Int).toNat by omega) (ints_get (idx_lt c8 l_a0)) ?_
        refine k_move (v := .int .i64 y7) rfl s7_e117 ?_
        refine k_indexA (n := 32) (s := 1) (j := y7) rfl Tryd.underlying22 (by kernel_rfl) s3_e117 rfl c9 ?_
        refine k_indexA (n := 64) (s := 1) (j := y7) rfl Tryd.underlying24 (by kernel_rfl) s5_e117 rfl c10 ?_
        refine k_alt ?_ ?_
        ·
          refine tk_ef ?_
          refine k_load (j := (y7 : Int).toNat) (v := .int .u8 (a1.getD (y7 : Int).toNat 0)) rfl (by kernel_rfl) rfl (hp.get (j := 1) rfl) rfl (show 0 + (y7 : Int).toNat * 1 = 0 + (y7 : Int).toNat by omega) (ints_get (idx_lt c9 l_a1)) ?_
          refine k_store (v := .int .u8 (a0.getD (y7 : Int).toNat 0)) 2 (y7 : Int).toNat (r := ⟨g4, 0, ints .u8 y6⟩) rfl (by kernel_rfl) rfl rfl rfl hp rfl rfl (show 0 + (y7 : Int).toNat * 1 = 0 + (y7 : Int).toNat by omega) (Nat.lt_of_lt_of_eq (idx_lt c10 ly6) (ints_length _ _).symm) (by decide) ?_; intro w hp; rw [ints_set] at hp
          refine k_indexA (n := 64) (s := 1) (j := (IntKind.i64.wrap (32 + y7))) rfl Tryd.underlying24 (by kernel_rfl) s5_e117 rfl c11 ?_
          refine k_store (v := .int .u8 (a1.getD (y7 : Int).toNat 0)) 2 ((IntKind.i64.wrap (32 + y7)) : Int).toNat (r := ⟨g4, 0, ints .u8 (y6.set (y7 : Int).toNat (a0.getD (y7 : Int).toNat 0))⟩) rfl (by kernel_rfl) rfl rfl rfl hp rfl rfl (show 0 + ((IntKind.i64.wrap (32 + y7)) : Int).toNat * 1 = 0 + ((IntKind.i64.wrap (32 + y7)) : Int).toNat by omega) (Nat.lt_of_lt_of_eq (idx_lt c11 (List.length_set.trans ly6)) (ints_length _ _).symm) (by decide) ?_; intro w hp; rw [ints_set] at hp
          refine k_endI ?_; intro e118 qe118
          exact ⟨(congrFun qe118 2).trans s2_e117, (congrFun qe118 3).trans s3_e117, (congrFun qe118 5).trans s5_e117, (congrFun qe118 6).trans s6_e117, (congrFun qe118 10).trans s10_e117, hp⟩
        refine k_store (v := .int .u8 (a0.getD (y7 : Int).toNat 0)) 2 (y7 : Int).toNat (r := ⟨g4, 0, ints .u8 y6⟩) rfl (by kernel_rfl) rfl rfl rfl hp rfl rfl (show 0 + (y7 : Int).toNat * 1 = 0 + (y7 : Int).toNat by omega) (Nat.lt_of_lt_of_eq (idx_lt c10 ly6) (ints_length _ _).symm) (by decide) ?_; intro w hp; rw [ints_set] at hp
        refine k_load (j := (y7 : Int).toNat) (v := .int .u8 (a1.getD (y7 : Int).toNat 0)) rfl (by kernel_rfl) rfl (hp.get (j := 1) rfl) rfl (show 0 + (y7 : Int).toNat * 1 = 0 + (y7 : Int).toNat by omega) (ints_get (idx_lt c9 l_a1)) ?_
        refine k_indexA (n := 64) (s := 1) (j := (IntKind.i64.wrap (32 + y7))) rfl Tryd.underlying24 (by kernel_rfl) s5_e117 rfl c11 ?_
        refine k_store (v := .int .u8 (a1.getD (y7 : Int).toNat 0)) 2 ((IntKind.i64.wrap (32 + y7)) : Int).toNat (r := ⟨g4, 0, ints .u8 (y6.set (y7 : Int).toNat (a0.getD (y7 : Int).toNat 0))⟩) rfl (by kernel_rfl) rfl rfl rfl hp rfl rfl (show 0 + ((IntKind.i64.wrap (32 + y7)) : Int).toNat * 1 = 0 + ((IntKind.i64.wrap (32 + y7)) : Int).toNat by omega) (Nat.lt_of_lt_of_eq (idx_lt c11 (List.length_set.trans ly6)) (ints_length _ _).symm) (by decide) ?_; intro w hp; rw [ints_set] at hp
        refine k_endI ?_; intro e118 qe118
        exact ⟨(congrFun qe118 2).trans s2_e117, (congrFun qe118 3).trans s3_e117, (congrFun qe118 5).trans s5_e117, (congrFun qe118 6).trans s6_e117, (congrFun qe118 10).trans s10_e117, hp⟩
      rintro e118 w ⟨s2_e118, s3_e118, s5_e118, s6_e118, s10_e118, hp⟩
      refine wregion (.tp 0 (.tp 1 (.done))) [] rfl (by kernel_rfl) (by kernel_rfl) ?_
      refine k_bin (X := .int .i64 y7) (Y := .int .i64 1) rfl s10_e118 rfl rfl ?_
      refine k_move (v := .int .i64 (IntKind.i64.wrap (y7 + 1))) rfl rfl ?_
      refine k_end ?_; intro e119 qe119
      have s2_e119 : e119 2 = .pointer (some ⟨g1, 0, none⟩) := (congrFun qe119 2).trans s2_e118
      have s3_e119 : e119 3 = .pointer (some ⟨g2, 0, none⟩) := (congrFun qe119 3).trans s3_e118
      have s5_e119 : e119 5 = .pointer (some ⟨g4, 0, none⟩) := (congrFun qe119 5).trans s5_e118
      have s6_e119 : e119 6 = .pointer (some ⟨g5, 0, none⟩) := (congrFun qe119 6).trans s6_e118
      obtain ⟨x12, qx12, h⟩ := lt_e h
      have s10_e119 : e119 10 = .int .i64 x12 := (congrFun qe119 10).trans (congrArg (Value.int .i64) qx12.symm)
      clear qe119
      exact ih ((y6.set (y7 : Int).toNat (a0.getD (y7 : Int).toNat 0)).set ((IntKind.i64.wrap (32 + y7)) : Int).toNat (a1.getD (y7 : Int).toNat 0)) x12 _ _ (List.length_set.trans (List.length_set.trans ly6)) s2_e119 s3_e119 s5_e119 s6_e119 s10_e119 (hp.drop (L' := [⟨g1, 0, ints .u8 a0⟩, ⟨g2, 0, ints .u8 a1⟩, ⟨g4, 0, ints .u8 ((y6.set (y7 : Int).toNat (a0.getD (y7 : Int).toNat 0)).set ((IntKind.i64.wrap (32 + y7)) : Int).toNat (a1.getD (y7 : Int).toNat 0))⟩, ⟨g5, 0, ints .u8 (List.replicate 64 (0 : Int))⟩]) (List.Sublist.refl _)) h
    · replace h := br_f hb h
      refine wexit rfl ?_
      exact hQ0 _ _ y6 ly6 s2_e116 s3_e116 s5_e116 s6_e116 (hp.drop (L' := [⟨g1, 0, ints .u8 a0⟩, ⟨g2, 0, ints .u8 a1⟩, ⟨g4, 0, ints .u8 y6⟩, ⟨g5, 0, ints .u8 (List.replicate 64 (0 : Int))⟩]) (List.Sublist.refl _)) (Option.some.inj h).symm
theorem postilionlaw05_ScalarReduces_ok (k : Nat) (a0 : List Int) (a1 : List Int) (la0 : a0.length = 32) (la1 : a1.length = 32) (w0 : World) (hp : Hp w0 [] w0 [] [⟨0, 0, ints .u64 [6346243789798364141, 1503914060200516822, 0, 1152921504606846976]⟩]) {r : Bool} (h : postilionlaw05_ScalarReduces.f k a0 a1 = some r) :
    Calls Tryd.prog 3 [.agg (ints .u8 a0).toArray, .agg (ints .u8 a1).toArray].toArray w0 fun x w' => ∃ v, x = .returned v ∧ v = .bool r ∧ Hp w0 [] w' [] [⟨0, 0, ints .u64 [6346243789798364141, 1503914060200516822, 0, 1152921504606846976]⟩] := by
  refine calls_in Tryd.func3 rfl (Nat.le_of_ble_eq_true (by kernel_rfl)) (by kernel_rfl) ?_
  intro e0 qe0
  have s0_e0 : e0 0 = .agg (ints .u8 a0).toArray := congrFun qe0 0
  have s1_e0 : e0 1 = .agg (ints .u8 a1).toArray := congrFun qe0 1
  clear qe0
  unfold postilionlaw05_ScalarReduces.f at h
  refine wseq rfl ?_
  refine wregion (.ef 0 (.ef 1 (.tp 2 (.done)))) [] rfl (by kernel_rfl) (by kernel_rfl) ?_
  refine k_box (v := .agg (ints .u8 a0).toArray) (ints .u8 a0) rfl s0_e0 rfl hp ?_
  intro g1 w hbg1 hp
  refine k_box (v := .agg (ints .u8 a1).toArray) (ints .u8 a1) rfl s1_e0 rfl hp ?_
  intro g2 w hbg2 hp
  refine k_assign (v := .bool false) rfl rfl ?_
  refine k_end ?_; intro e111 qe111
  have s2_e111 : e111 2 = .pointer (some ⟨g1, 0, none⟩) := congrFun qe111 2
  have s3_e111 : e111 3 = .pointer (some ⟨g2, 0, none⟩) := congrFun qe111 3
  clear qe111
  refine wseq rfl ?_
  refine wseq rfl ?_
  refine wregion (.ef 0 (.tp 1 (.done))) [] rfl (by kernel_rfl) (by kernel_rfl) ?_
  obtain ⟨r3, qr3, h⟩ := bd_e h
  refine k_call [] rfl (by kernel_rfl) (args0 ) (postilionlaw05_awake_ok k   _ (hp.toR (fun r hr => by rw [List.mem_singleton] at hr; subst hr; exact .inr (List.mem_of_getElem? (i := 0) rfl))) qr3) ?_
  rintro _ w' ⟨_, rfl, rfl, hpc⟩
  refine ⟨_, rfl, .inr (.of_below hpc.chg.to_below), ?_⟩; have hp := hp.below hpc.chg.to_below; clear hpc
  refine k_not (b := r3) rfl rfl ?_
  refine k_end ?_; intro e112 qe112
  have s2_e112 : e112 2 = .pointer (some ⟨g1, 0, none⟩) := (congrFun qe112 2).trans s2_e111
  have s3_e112 : e112 3 = .pointer (some ⟨g2, 0, none⟩) := (congrFun qe112 3).trans s3_e111
  have s9_e112 : e112 9 = .bool (!r3) := congrFun qe112 9
  clear qe112
  refine wcond (t := (!r3)) rfl (by decide) s9_e112 (fun hb => ?_) (fun hb => ?_)
  · replace h := br_t hb h
    refine wseq rfl ?_
    refine wregion (.tp 0 (.done)) [] rfl (by kernel_rfl) (by kernel_rfl) ?_
    refine k_assign (v := .bool false) rfl rfl ?_
    refine k_end ?_; intro e113 qe113
    have s4_e113 : e113 4 = .bool false := congrFun qe113 4
    clear qe113
    refine wret rfl ?_
    have hr : r = false := (Option.some.inj h).symm
    show RetP _ _ _ _ _
    rw [hr]
    exact ret_i [.bool false] (res_tmp s4_e113 res_nil) ⟨rfl, hp.none⟩
  · replace h := br_f hb h
    refine wskip rfl ?_
    refine wseq rfl ?_
    refine wregion (.ef 0 (.ef 1 (.done))) [] rfl (by kernel_rfl) (by kernel_rfl) ?_
    refine k_alloc (ints .u8 (List.replicate 64 (0 : Int))) rfl (by kernel_rfl) hp ?_
    intro g4 w hbg4 hp
    refine k_alloc (ints .u8 (List.replicate 64 (0 : Int))) rfl (by kernel_rfl) hp ?_
    intro g5 w hbg5 hp
    refine k_end ?_; intro e114 qe114
    have s2_e114 : e114 2 = .pointer (some ⟨g1, 0, none⟩) := (congrFun qe114 2).trans s2_e112
    have s3_e114 : e114 3 = .pointer (some ⟨g2, 0, none⟩) := (congrFun qe114 3).trans s3_e112
    have s5_e114 : e114 5 = .pointer (some ⟨g4, 0, none⟩) := congrFun qe114 5
    have s6_e114 : e114 6 = .pointer (some ⟨g5, 0, none⟩) := congrFun qe114 6
    clear qe114
    refine wseq rfl ?_
    refine wseq rfl ?_
    refine wregion (.tp 0 (.done)) [] rfl (by kernel_rfl) (by kernel_rfl) ?_
    refine k_move (v := .int .i64 0) rfl rfl ?_
    refine k_end ?_; intro e115 qe115
    have s2_e115 : e115 2 = .pointer (some ⟨g1, 0, none⟩) := (congrFun qe115 2).trans s2_e114
    have s3_e115 : e115 3 = .pointer (some ⟨g2, 0, none⟩) := (congrFun qe115 3).trans s3_e114
    have s5_e115 : e115 5 = .pointer (some ⟨g4, 0, none⟩) := (congrFun qe115 5).trans s5_e114
    have s6_e115 : e115 6 = .pointer (some ⟨g5, 0, none⟩) := (congrFun qe115 6).trans s6_e114
    have s10_e115 : e115 10 = .int .i64 0 := congrFun qe115 10
    clear qe115
    refine wblock rfl ?_
    obtain ⟨r13, qr13, h⟩ := bd_e h
    refine wloop k rfl (postilionlaw05_ScalarReduces.p1_ok g1 g2 g4 g5 a0 a1 la0 la1 ?hq0 k (List.replicate 64 (0 : Int)) 0 e115 _ List.length_replicate s2_e115 s3_e115 s5_e115 s6_e115 s10_e115 hp qr13)
    case hq0 =>
      intro e120 w m14 lm14 s2_e120 s3_e120 s5_e120 s6_e120 hp qq
      rw [qq] at h; clear qq
      refine wseq rfl ?_
      refine wregion (.tp 0 (.ef 1 (.done))) [1] rfl (by kernel_rfl) (by kernel_rfl) ?_
      refine k_indexA (n := 64) (s := 1) (j := 32) rfl Tryd.underlying24 (by kernel_rfl) s6_e120 rfl (by decide) ?_
      refine k_store (v := .int .u8 1) 3 32 (r := ⟨g5, 0, ints .u8 (List.replicate 64 (0 : Int))⟩) rfl (by kernel_rfl) rfl rfl rfl hp rfl rfl rfl (Nat.lt_of_lt_of_eq (Nat.lt_of_lt_of_eq (by decide) (List.length_replicate).symm) (ints_length _ _).symm) (by decide) ?_; intro w hp; rw [ints_set] at hp
      refine k_end ?_; intro e121 qe121
      have s2_e121 : e121 2 = .pointer (some ⟨g1, 0, none⟩) := (congrFun qe121 2).trans s2_e120
      have s3_e121 : e121 3 = .pointer (some ⟨g2, 0, none⟩) := (congrFun qe121 3).trans s3_e120
      have s5_e121 : e121 5 = .pointer (some ⟨g4, 0, none⟩) := (congrFun qe121 5).trans s5_e120
      have s6_e121 : e121 6 = .pointer (some ⟨g5, 0, none⟩) := (congrFun qe121 6).trans s6_e120
      clear qe121
      refine wseq rfl ?_
      refine wregion_d (.tk 0 (.tk 2 (.tk 3 (.tk 5 (.ef 1 (.ef 4 (.ef 6 (.tp 7 (.tp 8 (.done)))))))))) [] rfl (by kernel_rfl) (by kernel_rfl) (Nat.le_of_ble_eq_true (by kernel_rfl)) (by kernel_rfl) ?_
      have hp := hp.drew
      refine k_loadA (n := 64) (xs := ints .u8 m14) 0 rfl (by kernel_rfl) (by kernel_rfl) s5_e121 (hp.get (j := 2) rfl) rfl rfl ((ints_length _ _).trans lm14) (fun m v hm => by rw [Nat.zero_add]; exact hm) ?_
      refine k_loadA (n := 32) (xs := ints .u8 a1) 0 rfl (by kernel_rfl) (by kernel_rfl) s3_e121 (hp.get (j := 1) rfl) rfl rfl ((ints_length _ _).trans la1) (fun m v hm => by rw [Nat.zero_add]; exact hm) ?_
      refine k_loadA (n := 64) (xs := ints .u8 ((List.replicate 64 (0 : Int)).set 32 1)) 0 rfl (by kernel_rfl) (by kernel_rfl) s6_e121 (hp.get (j := 3) rfl) rfl rfl ((ints_length _ _).trans (List.length_set.trans List.length_replicate)) (fun m v hm => by rw [Nat.zero_add]; exact hm) ?_
      refine k_loadA (n := 32) (xs := ints .u8 a0) 0 rfl (by kernel_rfl) (by kernel_rfl) s2_e121 (hp.get (j := 0) rfl) rfl rfl ((ints_length _ _).trans la0) (fun m v hm => by rw [Nat.zero_add]; exact hm) ?_
      obtain ⟨r15, qr15, h⟩ := bd_e h
      refine k_call [.agg (ints .u8 m14).toArray] rfl (by kernel_rfl) (args1 rfl) (scalar_Reduce_ok k m14 lm14 _ (hp.toR (fun r hr => by rw [List.mem_singleton] at hr; subst hr; exact .inr (List.mem_of_getElem? (i := 0) rfl))) qr15) ?_
      rintro _ w' ⟨_, rfl, rfl, lr150, hpc⟩
      refine ⟨_, rfl, .inr (.of_below hpc.chg.to_below), ?_⟩; have hp := hp.below hpc.chg.to_below; clear hpc
      obtain ⟨r16, qr16, h⟩ := bd_e h
      refine k_call [.agg (ints .u8 ((List.replicate 64 (0 : Int)).set 32 1)).toArray] rfl (by kernel_rfl) (args1 rfl) (scalar_Reduce_ok k ((List.replicate 64 (0 : Int)).set 32 1) (List.length_set.trans List.length_replicate) _ (hp.toR (fun r hr => by rw [List.mem_singleton] at hr; subst hr; exact .inr (List.mem_of_getElem? (i := 0) rfl))) qr16) ?_
      rintro _ w' ⟨_, rfl, rfl, lr160, hpc⟩
      refine ⟨_, rfl, .inr (.of_below hpc.chg.to_below), ?_⟩; have hp := hp.below hpc.chg.to_below; clear hpc
      obtain ⟨r17, qr17, h⟩ := bd_e h
      refine k_call [.agg (ints .u8 a1).toArray, .agg (ints .u8 r16).toArray, .agg (ints .u8 a0).toArray] rfl (by kernel_rfl) (args3 rfl rfl rfl) (scalar_MulAdd_ok k a1 r16 a0 la1 lr160 la0 _ (hp.toR (fun r hr => by rw [List.mem_singleton] at hr; subst hr; exact .inr (List.mem_of_getElem? (i := 0) rfl))) qr17) ?_
      rintro _ w' ⟨_, rfl, rfl, lr170, hpc⟩
      refine ⟨_, rfl, .inr (.of_below hpc.chg.to_below), ?_⟩; have hp := hp.below hpc.chg.to_below; clear hpc
      refine k_eqI (k := .u8) (l := r15) (l' := r17) rfl Tryd.underlying22 Tryd.underlying5 (by kernel_rfl) (by kernel_rfl) rfl rfl lr150 lr170 ?_
      refine k_assign (v := .bool (r15 == r17)) rfl rfl ?_
      refine k_end ?_; intro e122 qe122
      have s4_e122 : e122 4 = .bool (r15 == r17) := congrFun qe122 4
      clear qe122
      refine wret rfl ?_
      have hr : r = (r15 == r17) := (Option.some.inj h).symm
      show RetP _ _ _ _ _
      rw [hr]
      exact ret_i [.bool (r15 == r17)] (res_tmp s4_e122 res_nil) ⟨rfl, hp.none⟩
/-! 10 postilion/scalar.Add -/
theorem scalar_Add_ok (k : Nat) (a0 : List Int) (a1 : List Int) (la0 : a0.length = 32) (la1 : a1.length = 32) (w0 : World) (hp : Hp w0 [] w0 [] [⟨0, 0, ints .u64 [6346243789798364141, 1503914060200516822, 0, 1152921504606846976]⟩]) {r : List Int} (h : scalar_Add.f k a0 a1 = some r) :
    Calls Tryd.prog 10 [.agg (ints .u8 a0).toArray, .agg (ints .u8 a1).toArray].toArray w0 fun x w' => ∃ v, x = .returned v ∧ v = .agg (ints .u8 r).toArray ∧ r.length = 32 ∧ Hp w0 [] w' [] [⟨0, 0, ints .u64 [6346243789798364141, 1503914060200516822, 0, 1152921504606846976]⟩] := by
  refine calls_in Tryd.func10 rfl (Nat.le_of_ble_eq_true (by kernel_rfl)) (by kernel_rfl) ?_
  intro e0 qe0
  have s0_e0 : e0 0 = .agg (ints .u8 a0).toArray := congrFun qe0 0
  have s1_e0 : e0 1 = .agg (ints .u8 a1).toArray := congrFun qe0 1
  clear qe0
  unfold scalar_Add.f at h
  refine wseq rfl ?_
  refine wregion (.ef 0 (.ef 1 (.ef 2 (.done)))) [] rfl (by kernel_rfl) (by kernel_rfl) ?_
  refine k_box (v := .agg (ints .u8 a0).toArray) (ints .u8 a0) rfl s0_e0 rfl hp ?_
  intro g1 w hbg1 hp
  refine k_box (v := .agg (ints .u8 a1).toArray) (ints .u8 a1) rfl s1_e0 rfl hp ?_
  intro g2 w hbg2 hp
  refine k_alloc (ints .u8 (List.replicate 32 (0 : Int))) rfl (by kernel_rfl) hp ?_
  intro g3 w hbg3 hp
  refine k_end ?_; intro e123 qe123
  have s2_e123 : e123 2 = .pointer (some ⟨g1, 0, none⟩) := congrFun qe123 2
  have s3_e123 : e123 3 = .pointer (some ⟨g2, 0, none⟩) := congrFun qe123 3
  have s4_e123 : e123 4 = .pointer (some ⟨g3, 0, none⟩) := congrFun qe123 4
  clear qe123
  refine wseq rfl ?_
  refine wregion_d (.tp 0 (.tp 2 (.ef 1 (.ef 3 (.ef 4 (.ef 5 (.ef 6 (.ef 7 (.done))))))))) [7] rfl (by kernel_rfl) (by kernel_rfl) (Nat.le_of_ble_eq_true (by kernel_rfl)) (by kernel_rfl) ?_
  have hp := hp.drew
  refine k_sliceA (n := 32) (s := 1) (l := 0) (h' := 32) rfl Tryd.underlying22 (by kernel_rfl) s2_e123 rfl rfl (by decide) ?_
  refine k_sliceA (n := 32) (s := 1) (l := 0) (h' := 32) rfl Tryd.underlying22 (by kernel_rfl) s3_e123 rfl rfl (by decide) ?_
  obtain ⟨r4, qr4, h⟩ := bd_e h
  refine k_call [.slice (some ⟨g1, 0 + 0 * 1, none⟩) a0.length (32 - 0)] rfl (by kernel_rfl) (args1 (Eq.trans (b := .slice (some ⟨g1, 0 + 0 * 1, none⟩) (32 - 0) (32 - 0)) rfl (congrArg (fun n => Value.slice (some ⟨g1, 0 + 0 * 1, none⟩) n (32 - 0)) (show (32 - 0) = a0.length from la0.symm)))) (scalar_reduce_ok k a0 g1 (0 + 0 * 1) ((32 - 0))  _ (hp.toR (fun r hr => by simp only [List.mem_cons, List.not_mem_nil, or_false] at hr; rcases hr with rfl | rfl; exact .inr (List.mem_of_getElem? (i := 0) rfl); exact .inl (List.mem_of_getElem? (i := 0) rfl))) qr4) ?_
  rintro _ w' ⟨_, rfl, rfl, lr40, hpc⟩
  refine ⟨_, rfl, .inr (.of_below hpc.chg.to_below), ?_⟩; have hp := hp.below hpc.chg.to_below; clear hpc
  obtain ⟨r5, qr5, h⟩ := bd_e h
  refine k_call [.slice (some ⟨g2, 0 + 0 * 1, none⟩) a1.length (32 - 0)] rfl (by kernel_rfl) (args1 (Eq.trans (b := .slice (some ⟨g2, 0 + 0 * 1, none⟩) (32 - 0) (32 - 0)) rfl (congrArg (fun n => Value.slice (some ⟨g2, 0 + 0 * 1, none⟩) n (32 - 0)) (show (32 - 0) = a1.length from la1.symm)))) (scalar_reduce_ok k a1 g2 (0 + 0 * 1) ((32 - 0))  _ (hp.toR (fun r hr => by simp only [List.mem_cons, List.not_mem_nil, or_false] at hr; rcases hr with rfl | rfl; exact .inr (List.mem_of_getElem? (i := 0) rfl); exact .inl (List.mem_of_getElem? (i := 1) rfl))) qr5) ?_
  rintro _ w' ⟨_, rfl, rfl, lr50, hpc⟩
  refine ⟨_, rfl, .inr (.of_below hpc.chg.to_below), ?_⟩; have hp := hp.below hpc.chg.to_below; clear hpc
  obtain ⟨r6, qr6, h⟩ := bd_e h
  refine k_call [.agg (ints .u64 r4).toArray, .agg (ints .u64 r5).toArray] rfl (by kernel_rfl) (args2 rfl rfl) (scalar_number_add_ok k r4 r5 lr40 lr50 _ (hp.toR (fun r hr => by rw [List.mem_singleton] at hr; subst hr; exact .inr (List.mem_of_getElem? (i := 0) rfl))) qr6) ?_
  rintro _ w' ⟨_, rfl, rfl, lr60, hpc⟩
  refine ⟨_, rfl, .inr (.of_below hpc.chg.to_below), ?_⟩; have hp := hp.below hpc.chg.to_below; clear hpc
  obtain ⟨r7, qr7, h⟩ := bd_e h
  refine k_call [.agg (ints .u64 r6).toArray] rfl (by kernel_rfl) (args1 rfl) (scalar_number_less_ok k r6 lr60 _ (hp.toR (fun r hr => by rw [List.mem_singleton] at hr; subst hr; exact .inr (List.mem_of_getElem? (i := 0) rfl))) qr7) ?_
  rintro _ w' ⟨_, rfl, rfl, lr70, hpc⟩
  refine ⟨_, rfl, .inr (.of_below hpc.chg.to_below), ?_⟩; have hp := hp.below hpc.chg.to_below; clear hpc
  obtain ⟨r8, qr8, h⟩ := bd_e h
  refine k_call [.agg (ints .u64 r7).toArray] rfl (by kernel_rfl) (args1 rfl) (scalar_number_bytes_ok k r7 lr70 _ (hp.toR (fun r hr => by rw [List.mem_singleton] at hr; subst hr; exact .inr (List.mem_of_getElem? (i := 0) rfl))) qr8) ?_
  rintro _ w' ⟨_, rfl, rfl, lr80, hpc⟩
  refine ⟨_, rfl, .inr (.of_below hpc.chg.to_below), ?_⟩; have hp := hp.below hpc.chg.to_below; clear hpc
  refine k_storeA (v := .agg (ints .u8 r8).toArray) 2 0 (r := ⟨g3, 0, ints .u8 (List.replicate 32 (0 : Int))⟩) (ints .u8 r8) (ints .u8 r8) rfl (n := 32) (by kernel_rfl) s4_e123 rfl rfl ((ints_length _ _).trans lr80) (ints_one _ _) hp rfl rfl rfl (Nat.le_of_eq ((Nat.zero_add _).trans ((ints_length _ _).trans List.length_replicate).symm)) (setMany_all _ _ (((ints_length _ _).trans lr80).trans ((ints_length _ _).trans List.length_replicate).symm)) (by decide) ?_; intro w hp
  refine k_end ?_; intro e124 qe124
  have s4_e124 : e124 4 = .pointer (some ⟨g3, 0, none⟩) := (congrFun qe124 4).trans s4_e123
  clear qe124
  refine wret rfl ?_
  have hr : r = r8 := (Option.some.inj h).symm
  show RetP _ _ _ _ _
  rw [hr]
  exact ret_i [.agg (ints .u8 r8).toArray] (res_cell s4_e124 (loadVar_agg (by kernel_rfl) (by kernel_rfl) ((ints_length _ _).trans lr80) (hp.get (j := 2) rfl) rfl rfl rfl) res_nil) ⟨rfl, lr80, hp.none⟩
/-! 11 postilion/scalar.Neg -/
theorem scalar_Neg_ok (k : Nat) (a0 : List Int) (la0 : a0.length = 32) (w0 : World) (hp : Hp w0 [] w0 [] [⟨0, 0, ints .u64 [6346243789798364141, 1503914060200516822, 0, 1152921504606846976]⟩]) {r : List Int} (h : scalar_Neg.f k a0 = some r) :
    Calls Tryd.prog 11 [.agg (ints .u8 a0).toArray].toArray w0 fun x w' => ∃ v, x = .returned v ∧ v = .agg (ints .u8 r).toArray ∧ r.length = 32 ∧ Hp w0 [] w' [] [⟨0, 0, ints .u64 [6346243789798364141, 1503914060200516822, 0, 1152921504606846976]⟩] := by
  refine calls_in Tryd.func11 rfl (Nat.le_of_ble_eq_true (by kernel_rfl)) (by kernel_rfl) ?_
  intro e0 qe0
  have s0_e0 : e0 0 = .agg (ints .u8 a0).toArray := congrFun qe0 0
  clear qe0
  unfold scalar_Neg.f at h
  refine wseq rfl ?_
  refine wregion (.ef 0 (.ef 1 (.done))) [] rfl (by kernel_rfl) (by kernel_rfl) ?_
  refine k_box (v := .agg (ints .u8 a0).toArray) (ints .u8 a0) rfl s0_e0 rfl hp ?_
  intro g1 w hbg1 hp
  refine k_alloc (ints .u8 (List.replicate 32 (0 : Int))) rfl (by kernel_rfl) hp ?_
  intro g2 w hbg2 hp
  refine k_end ?_; intro e125 qe125
  have s1_e125 : e125 1 = .pointer (some ⟨g1, 0, none⟩) := congrFun qe125 1
  have s2_e125 : e125 2 = .pointer (some ⟨g2, 0, none⟩) := congrFun qe125 2
  clear qe125
  refine wseq rfl ?_
  obtain ⟨r3, qr3, h⟩ := bd_e h
  obtain ⟨r4, qr4, h⟩ := bd_e h
  refine wcut (fun e126 w2 => ∃ g5 : Nat, r3.length = 4 ∧ r4.1.length = 4 ∧ e126 2 = .pointer (some ⟨g2, 0, none⟩) ∧ e126 3 = .pointer (some ⟨g5, 0, none⟩) ∧ Hp w0 [] w2 [⟨g1, 0, ints .u8 a0⟩, ⟨g2, 0, ints .u8 (List.replicate 32 (0 : Int))⟩, ⟨g5, 0, ints .u64 r4.1⟩] [⟨0, 0, ints .u64 [6346243789798364141, 1503914060200516822, 0, 1152921504606846976]⟩]) ?_ ?_
  rotate_left
  · refine wregion_d (.tk 0 (.tp 1 (.alt (.ef 2 (.alt (.ef 3 (.tp 4 (.tp 5 (.tp 6 (.ef 7 (.ef 8 (.tp 9 (.done)))))))) (.ef 7 (.ef 3 (.tp 4 (.tp 5 (.tp 6 (.ef 8 (.tp 9 (.done)))))))))) (.ef 7 (.ef 2 (.ef 3 (.tp 4 (.tp 5 (.tp 6 (.ef 8 (.tp 9 (.done)))))))))))) [8] rfl (by kernel_rfl) (by kernel_rfl) (Nat.le_of_ble_eq_true (by kernel_rfl)) (by kernel_rfl) ?_
    have hp := hp.drew
    refine k_loadA (n := 4) (xs := ints .u64 [6346243789798364141, 1503914060200516822, 0, 1152921504606846976]) 0 rfl (by kernel_rfl) (by kernel_rfl) rfl (hp.getR (j := 0) rfl) rfl rfl ((ints_length _ _).trans (rfl : List.length ([6346243789798364141, 1503914060200516822, 0, 1152921504606846976] : List Int) = 4)) (fun m v hm => by rw [Nat.zero_add]; exact hm) ?_
    refine k_sliceA (n := 32) (s := 1) (l := 0) (h' := 32) rfl Tryd.underlying22 (by kernel_rfl) s1_e125 rfl rfl (by decide) ?_
    refine k_alt ?_ ?_
    ·
      refine k_call [.slice (some ⟨g1, 0 + 0 * 1, none⟩) a0.length (32 - 0)] rfl (by kernel_rfl) (args1 (Eq.trans (b := .slice (some ⟨g1, 0 + 0 * 1, none⟩) (32 - 0) (32 - 0)) rfl (congrArg (fun n => Value.slice (some ⟨g1, 0 + 0 * 1, none⟩) n (32 - 0)) (show (32 - 0) = a0.length from la0.symm)))) (scalar_reduce_ok k a0 g1 (0 + 0 * 1) ((32 - 0))  _ (hp.toR (fun r hr => by simp only [List.mem_cons, List.not_mem_nil, or_false] at hr; rcases hr with rfl | rfl; exact .inr (List.mem_of_getElem? (i := 0) rfl); exact .inl (List.mem_of_getElem? (i := 0) rfl))) qr3) ?_
      rintro _ w' ⟨_, rfl, rfl, lr30, hpc⟩
      refine ⟨_, rfl, .inr (.of_below hpc.chg.to_below), ?_⟩; have hp := hp.below hpc.chg.to_below; clear hpc
      refine k_alt ?_ ?_
      ·
        refine k_call [.agg (ints .u64 [6346243789798364141, 1503914060200516822, 0, 1152921504606846976]).toArray, .agg (ints .u64 r3).toArray] rfl (by kernel_rfl) (args2 rfl rfl) (scalar_number_sub_ok k [6346243789798364141, 1503914060200516822, 0, 1152921504606846976] r3 (rfl : List.length ([6346243789798364141, 1503914060200516822, 0, 1152921504606846976] : List Int) = 4) lr30 _ (hp.toR (fun r hr => by rw [List.mem_singleton] at hr; subst hr; exact .inr (List.mem_of_getElem? (i := 0) rfl))) qr4) ?_
        rintro _ w' ⟨_, rfl, rfl, lr40, hpc⟩
        refine ⟨_, rfl, .inr (.of_below hpc.chg.to_below), ?_⟩; have hp := hp.below hpc.chg.to_below; clear hpc
        refine k_move (v := .tuple #[.agg (ints .u64 r4.1).toArray, .int .u64 r4.2]) rfl rfl ?_
        refine k_extract (v := .agg (ints .u64 r4.1).toArray) rfl rfl rfl ?_
        refine k_extract (v := .int .u64 r4.2) rfl rfl rfl ?_
        refine k_alloc (ints .u64 (List.replicate 4 (0 : Int))) rfl (by kernel_rfl) hp ?_
        intro g5 w hbg5 hp
        refine k_storeA (v := .agg (ints .u64 r4.1).toArray) 2 0 (r := ⟨g5, 0, ints .u64 (List.replicate 4 (0 : Int))⟩) (ints .u64 r4.1) (ints .u64 r4.1) rfl (n := 4) (by kernel_rfl) rfl rfl rfl ((ints_length _ _).trans lr40) (ints_one _ _) hp rfl rfl rfl (Nat.le_of_eq ((Nat.zero_add _).trans ((ints_length _ _).trans List.length_replicate).symm)) (setMany_all _ _ (((ints_length _ _).trans lr40).trans ((ints_length _ _).trans List.length_replicate).symm)) (by decide) ?_; intro w hp
        refine k_assign (v := .int .u64 r4.2) rfl rfl ?_
        refine k_endI ?_; intro e126 qe126
        exact ⟨g5, lr30, lr40, (congrFun qe126 2).trans s2_e125, congrFun qe126 3, hp⟩
      refine k_alloc (ints .u64 (List.replicate 4 (0 : Int))) rfl (by kernel_rfl) hp ?_
      intro g5 w hbg5 hp
      refine k_call [.agg (ints .u64 [6346243789798364141, 1503914060200516822, 0, 1152921504606846976]).toArray, .agg (ints .u64 r3).toArray] rfl (by kernel_rfl) (args2 rfl rfl) (scalar_number_sub_ok k [6346243789798364141, 1503914060200516822, 0, 1152921504606846976] r3 (rfl : List.length ([6346243789798364141, 1503914060200516822, 0, 1152921504606846976] : List Int) = 4) lr30 _ (hp.toR (fun r hr => by rw [List.mem_singleton] at hr; subst hr; exact .inr (List.mem_of_getElem? (i := 0) rfl))) qr4) ?_
      rintro _ w' ⟨_, rfl, rfl, lr40, hpc⟩
      refine ⟨_, rfl, .inr (.of_below hpc.chg.to_below), ?_⟩; have hp := hp.below hpc.chg.to_below; clear hpc
      refine k_move (v := .tuple #[.agg (ints .u64 r4.1).toArray, .int .u64 r4.2]) rfl rfl ?_
      refine k_extract (v := .agg (ints .u64 r4.1).toArray) rfl rfl rfl ?_
      refine k_extract (v := .int .u64 r4.2) rfl rfl rfl ?_
      refine k_storeA (v := .agg (ints .u64 r4.1).toArray) 2 0 (r := ⟨g5, 0, ints .u64 (List.replicate 4 (0 : Int))⟩) (ints .u64 r4.1) (ints .u64 r4.1) rfl (n := 4) (by kernel_rfl) rfl rfl rfl ((ints_length _ _).trans lr40) (ints_one _ _) hp rfl rfl rfl (Nat.le_of_eq ((Nat.zero_add _).trans ((ints_length _ _).trans List.length_replicate).symm)) (setMany_all _ _ (((ints_length _ _).trans lr40).trans ((ints_length _ _).trans List.length_replicate).symm)) (by decide) ?_; intro w hp
      refine k_assign (v := .int .u64 r4.2) rfl rfl ?_
      refine k_endI ?_; intro e126 qe126
      exact ⟨g5, lr30, lr40, (congrFun qe126 2).trans s2_e125, congrFun qe126 3, hp⟩
    refine k_alloc (ints .u64 (List.replicate 4 (0 : Int))) rfl (by kernel_rfl) hp ?_
    intro g5 w hbg5 hp
    refine k_call [.slice (some ⟨g1, 0 + 0 * 1, none⟩) a0.length (32 - 0)] rfl (by kernel_rfl) (args1 (Eq.trans (b := .slice (some ⟨g1, 0 + 0 * 1, none⟩) (32 - 0) (32 - 0)) rfl (congrArg (fun n => Value.slice (some ⟨g1, 0 + 0 * 1, none⟩) n (32 - 0)) (show (32 - 0) = a0.length from la0.symm)))) (scalar_reduce_ok k a0 g1 (0 + 0 * 1) ((32 - 0))  _ (hp.toR (fun r hr => by simp only [List.mem_cons, List.not_mem_nil, or_false] at hr; rcases hr with rfl | rfl; exact .inr (List.mem_of_getElem? (i := 0) rfl); exact .inl (List.mem_of_getElem? (i := 0) rfl))) qr3) ?_
    rintro _ w' ⟨_, rfl, rfl, lr30, hpc⟩
    refine ⟨_, rfl, .inr (.of_below hpc.chg.to_below), ?_⟩; have hp := hp.below hpc.chg.to_below; clear hpc
    refine k_call [.agg (ints .u64 [6346243789798364141, 1503914060200516822, 0, 1152921504606846976]).toArray, .agg (ints .u64 r3).toArray] rfl (by kernel_rfl) (args2 rfl rfl) (scalar_number_sub_ok k [6346243789798364141, 1503914060200516822, 0, 1152921504606846976] r3 (rfl : List.length ([6346243789798364141, 1503914060200516822, 0, 1152921504606846976] : List Int) = 4) lr30 _ (hp.toR (fun r hr => by rw [List.mem_singleton] at hr; subst hr; exact .inr (List.mem_of_getElem? (i := 0) rfl))) qr4) ?_
    rintro _ w' ⟨_, rfl, rfl, lr40, hpc⟩
    refine ⟨_, rfl, .inr (.of_below hpc.chg.to_below), ?_⟩; have hp := hp.below hpc.chg.to_below; clear hpc
    refine k_move (v := .tuple #[.agg (ints .u64 r4.1).toArray, .int .u64 r4.2]) rfl rfl ?_
    refine k_extract (v := .agg (ints .u64 r4.1).toArray) rfl rfl rfl ?_
    refine k_extract (v := .int .u64 r4.2) rfl rfl rfl ?_
    refine k_storeA (v := .agg (ints .u64 r4.1).toArray) 2 0 (r := ⟨g5, 0, ints .u64 (List.replicate 4 (0 : Int))⟩) (ints .u64 r4.1) (ints .u64 r4.1) rfl (n := 4) (by kernel_rfl) rfl rfl rfl ((ints_length _ _).trans lr40) (ints_one _ _) hp rfl rfl rfl (Nat.le_of_eq ((Nat.zero_add _).trans ((ints_length _ _).trans List.length_replicate).symm)) (setMany_all _ _ (((ints_length _ _).trans lr40).trans ((ints_length _ _).trans List.length_replicate).symm)) (by decide) ?_; intro w hp
    refine k_assign (v := .int .u64 r4.2) rfl rfl ?_
    refine k_endI ?_; intro e126 qe126
    exact ⟨g5, lr30, lr40, (congrFun qe126 2).trans s2_e125, congrFun qe126 3, hp⟩
  rintro e126 w ⟨g5, lr30, lr40, s2_e126, s3_e126, hp⟩
  refine wseq rfl ?_
  refine wregion (.tk 0 (.ef 1 (.ef 2 (.ef 3 (.done))))) [3] rfl (by kernel_rfl) (by kernel_rfl) ?_
  refine k_loadA (n := 4) (xs := ints .u64 r4.1) 0 rfl (by kernel_rfl) (by kernel_rfl) s3_e126 (hp.get (j := 2) rfl) rfl rfl ((ints_length _ _).trans lr40) (fun m v hm => by rw [Nat.zero_add]; exact hm) ?_
  obtain ⟨r6, qr6, h⟩ := bd_e h
  refine k_call [.agg (ints .u64 r4.1).toArray] rfl (by kernel_rfl) (args1 rfl) (scalar_number_less_ok k r4.1 lr40 _ (hp.toR (fun r hr => by rw [List.mem_singleton] at hr; subst hr; exact .inr (List.mem_of_getElem? (i := 0) rfl))) qr6) ?_
  rintro _ w' ⟨_, rfl, rfl, lr60, hpc⟩
  refine ⟨_, rfl, .inr (.of_below hpc.chg.to_below), ?_⟩; have hp := hp.below hpc.chg.to_below; clear hpc
  obtain ⟨r7, qr7, h⟩ := bd_e h
  refine k_call [.agg (ints .u64 r6).toArray] rfl (by kernel_rfl) (args1 rfl) (scalar_number_bytes_ok k r6 lr60 _ (hp.toR (fun r hr => by rw [List.mem_singleton] at hr; subst hr; exact .inr (List.mem_of_getElem? (i := 0) rfl))) qr7) ?_
  rintro _ w' ⟨_, rfl, rfl, lr70, hpc⟩
  refine ⟨_, rfl, .inr (.of_below hpc.chg.to_below), ?_⟩; have hp := hp.below hpc.chg.to_below; clear hpc
  refine k_storeA (v := .agg (ints .u8 r7).toArray) 1 0 (r := ⟨g2, 0, ints .u8 (List.replicate 32 (0 : Int))⟩) (ints .u8 r7) (ints .u8 r7) rfl (n := 32) (by kernel_rfl) s2_e126 rfl rfl ((ints_length _ _).trans lr70) (ints_one _ _) hp rfl rfl rfl (Nat.le_of_eq ((Nat.zero_add _).trans ((ints_length _ _).trans List.length_replicate).symm)) (setMany_all _ _ (((ints_length _ _).trans lr70).trans ((ints_length _ _).trans List.length_replicate).symm)) (by decide) ?_; intro w hp
  refine k_end ?_; intro e127 qe127
  have s2_e127 : e127 2 = .pointer (some ⟨g2, 0, none⟩) := (congrFun qe127 2).trans s2_e126
  clear qe127
  refine wret rfl ?_
  have hr : r = r7 := (Option.some.inj h).symm
  show RetP _ _ _ _ _
  rw [hr]
  exact ret_i [.agg (ints .u8 r7).toArray] (res_cell s2_e127 (loadVar_agg (by kernel_rfl) (by kernel_rfl) ((ints_length _ _).trans lr70) (hp.get (j := 1) rfl) rfl rfl rfl) res_nil) ⟨rfl, lr70, hp.none⟩
/-! 4 postilion/postilionlaw05.ScalarRing -/
theorem postilionlaw05_ScalarRing.p1_ok {w0 : World} {Ws : List Wr} {Q : Exit → Env → World → Prop} (k : Nat) (g1 g2 g3 g5 : Nat) (a0 : List Int) (a1 : List Int) (a2 : List Int) (l_a0 : a0.length = 32) (l_a1 : a1.length = 32) (l_a2 : a2.length = 32) {r : Bool} (hQ0 : ∀ (e' : Env) (w' : World) (z0 : Bool), e' 3 = .pointer (some ⟨g1, 0, none⟩) → e' 4 = .pointer (some ⟨g2, 0, none⟩) → e' 5 = .pointer (some ⟨g3, 0, none⟩) → e' 7 = .pointer (some ⟨g5, 0, none⟩) → e' 38 = .bool z0 → Hp w0 Ws w' [⟨g1, 0, ints .u8 a0⟩, ⟨g2, 0, ints .u8 a1⟩, ⟨g3, 0, ints .u8 a2⟩, ⟨g5, 0, ints .u8 (List.replicate 32 (0 : Int))⟩] [⟨0, 0, ints .u64 [6346243789798364141, 1503914060200516822, 0, 1152921504606846976]⟩] → r = (z0) → Q .normal e' w') (e : Env) (w : World) (s3_e : e 3 = .pointer (some ⟨g1, 0, none⟩)) (s4_e : e 4 = .pointer (some ⟨g2, 0, none⟩)) (s5_e : e 5 = .pointer (some ⟨g3, 0, none⟩)) (s7_e : e 7 = .pointer (some ⟨g5, 0, none⟩)) (hp : Hp w0 Ws w [⟨g1, 0, ints .u8 a0⟩, ⟨g2, 0, ints .u8 a1⟩, ⟨g3, 0, ints .u8 a2⟩, ⟨g5, 0, ints .u8 (List.replicate 32 (0 : Int))⟩] [⟨0, 0, ints .u64 [6346243789798364141, 1503914060200516822, 0, 1152921504606846976]⟩]) (h : postilionlaw05_ScalarRing.p1 k a0 a1 a2 = some r) : Wp Tryd.prog Tryd.f4.ntmps (at_ (fbody Tryd.f4) [1, 1, 1, 0, 0]) Q e w := by
  unfold postilionlaw05_ScalarRing.p1 at h
  refine wregion_d (.tk 0 (.tk 1 (.tk 3 (.tk 4 (.ef 2 (.ef 5 (.tp 6 (.tp 7 (.tk 8 (.tk 9 (.tk 11 (.tk 13 (.tk 14 (.tk 15 (.ef 10 (.ef 12 (.ef 16 (.ef 17 (.tp 18 (.tp 19 (.tp 20 (.tk 21 (.tk 22 (.tk 25 (.ef 23 (.ef 24 (.tp 26 (.tp 27 (.done))))))))))))))))))))))))))))) [] rfl (by kernel_rfl) (by kernel_rfl) (Nat.le_of_ble_eq_true (by kernel_rfl)) (by kernel_rfl) ?_
  have hp := hp.drew
  refine k_loadA (n := 32) (xs := ints .u8 a0) 0 rfl (by kernel_rfl) (by kernel_rfl) s3_e (hp.get (j := 0) rfl) rfl rfl ((ints_length _ _).trans l_a0) (fun m v hm => by rw [Nat.zero_add]; exact hm) ?_
  refine k_loadA (n := 32) (xs := ints .u8 a1) 0 rfl (by kernel_rfl) (by kernel_rfl) s4_e (hp.get (j := 1) rfl) rfl rfl ((ints_length _ _).trans l_a1) (fun m v hm => by rw [Nat.zero_add]; exact hm) ?_
  refine k_loadA (n := 32) (xs := ints .u8 a1) 0 rfl (by kernel_rfl) (by kernel_rfl) s4_e (hp.get (j := 1) rfl) rfl rfl ((ints_length _ _).trans l_a1) (fun m v hm => by rw [Nat.zero_add]; exact hm) ?_
  refine k_loadA (n := 32) (xs := ints .u8 a0) 0 rfl (by kernel_rfl) (by kernel_rfl) s3_e (hp.get (j := 0) rfl) rfl rfl ((ints_length _ _).trans l_a0) (fun m v hm => by rw [Nat.zero_add]; exact hm) ?_
  obtain ⟨r6, qr6, h⟩ := bd_e h
  refine k_call [.agg (ints .u8 a0).toArray, .agg (ints .u8 a1).toArray] rfl (by kernel_rfl) (args2 rfl rfl) (scalar_Add_ok k a0 a1 l_a0 l_a1 _ (hp.toR (fun r hr => by rw [List.mem_singleton] at hr; subst hr; exact .inr (List.mem_of_getElem? (i := 0) rfl))) qr6) ?_
  rintro _ w' ⟨_, rfl, rfl, lr60, hpc⟩
  refine ⟨_, rfl, .inr (.of_below hpc.chg.to_below), ?_⟩; have hp := hp.below hpc.chg.to_below; clear hpc
  obtain ⟨r7, qr7, h⟩ := bd_e h
  refine k_call [.agg (ints .u8 a1).toArray, .agg (ints .u8 a0).toArray] rfl (by kernel_rfl) (args2 rfl rfl) (scalar_Add_ok k a1 a0 l_a1 l_a0 _ (hp.toR (fun r hr => by rw [List.mem_singleton] at hr; subst hr; exact .inr (List.mem_of_getElem? (i := 0) rfl))) qr7) ?_
  rintro _ w' ⟨_, rfl, rfl, lr70, hpc⟩
  refine ⟨_, rfl, .inr (.of_below hpc.chg.to_below), ?_⟩; have hp := hp.below hpc.chg.to_below; clear hpc
  refine k_neI (k := .u8) (l := r6) (l' := r7) rfl Tryd.underlying22 Tryd.underlying5 (by kernel_rfl) (by kernel_rfl) rfl rfl lr60 lr70 ?_
  rcases Bool.eq_false_or_eq_true (!(r6 == r7)) with hb | hb
  · replace h := br_t hb h
    refine k_move (v := .bool true) rfl (Eq.trans (b := .bool (!(r6 == r7))) rfl (congrArg Value.bool hb)) ?_
    refine k_skip_tk rfl ?_
    refine k_skip_tk rfl ?_
    refine k_skip_tk rfl ?_
    refine k_skip_tk rfl ?_
    refine k_skip_tk rfl ?_
    refine k_skip_tk rfl ?_
    refine k_skip_ef rfl ?_
    refine k_skip_ef rfl ?_
    refine k_skip_ef rfl ?_
    refine k_skip_ef rfl ?_
    refine k_skip rfl ?_
    refine k_pick (b := true) (v := .bool true) rfl rfl rfl rfl rfl ?_
    refine k_move (v := .bool true) rfl rfl ?_
    refine k_skip_tk rfl ?_
    refine k_skip_tk rfl ?_
    refine k_skip_tk rfl ?_
    refine k_skip_ef rfl ?_
    refine k_skip_ef rfl ?_
    refine k_skip rfl ?_
    refine k_pick (b := true) (v := .bool true) rfl rfl rfl rfl rfl ?_
    refine k_end ?_; intro e132 qe132
    have s3_e132 : e132 3 = .pointer (some ⟨g1, 0, none⟩) := (congrFun qe132 3).trans s3_e
    have s4_e132 : e132 4 = .pointer (some ⟨g2, 0, none⟩) := (congrFun qe132 4).trans s4_e
    have s5_e132 : e132 5 = .pointer (some ⟨g3, 0, none⟩) := (congrFun qe132 5).trans s5_e
    have s7_e132 : e132 7 = .pointer (some ⟨g5, 0, none⟩) := (congrFun qe132 7).trans s7_e
    have s38_e132 : e132 38 = .bool true := congrFun qe132 38
    clear qe132
    exact hQ0 _ _ true  s3_e132 s4_e132 s5_e132 s7_e132 s38_e132 (hp.drop (L' := [⟨g1, 0, ints .u8 a0⟩, ⟨g2, 0, ints .u8 a1⟩, ⟨g3, 0, ints .u8 a2⟩, ⟨g5, 0, ints .u8 (List.replicate 32 (0 : Int))⟩]) (List.Sublist.refl _)) (Option.some.inj h).symm
  · replace h := br_f hb h
    refine k_move (v := .bool false) rfl (Eq.trans (b := .bool (!(r6 == r7))) rfl (congrArg Value.bool hb)) ?_
    refine k_loadA (n := 32) (xs := ints .u8 a0) 0 rfl (by kernel_rfl) (by kernel_rfl) s3_e (hp.get (j := 0) rfl) rfl rfl ((ints_length _ _).trans l_a0) (fun m v hm => by rw [Nat.zero_add]; exact hm) ?_
    refine k_loadA (n := 32) (xs := ints .u8 a1) 0 rfl (by kernel_rfl) (by kernel_rfl) s4_e (hp.get (j := 1) rfl) rfl rfl ((ints_length _ _).trans l_a1) (fun m v hm => by rw [Nat.zero_add]; exact hm) ?_
    refine k_loadA (n := 32) (xs := ints .u8 a2) 0 rfl (by kernel_rfl) (by kernel_rfl) s5_e (hp.get (j := 2) rfl) rfl rfl ((ints_length _ _).trans l_a2) (fun m v hm => by rw [Nat.zero_add]; exact hm) ?_
    refine k_loadA (n := 32) (xs := ints .u8 a0) 0 rfl (by kernel_rfl) (by kernel_rfl) s3_e (hp.get (j := 0) rfl) rfl rfl ((ints_length _ _).trans l_a0) (fun m v hm => by rw [Nat.zero_add]; exact hm) ?_
    refine k_loadA (n := 32) (xs := ints .u8 a1) 0 rfl (by kernel_rfl) (by kernel_rfl) s4_e (hp.get (j := 1) rfl) rfl rfl ((ints_length _ _).trans l_a1) (fun m v hm => by rw [Nat.zero_add]; exact hm) ?_
    refine k_loadA (n := 32) (xs := ints .u8 a2) 0 rfl (by kernel_rfl) (by kernel_rfl) s5_e (hp.get (j := 2) rfl) rfl rfl ((ints_length _ _).trans l_a2) (fun m v hm => by rw [Nat.zero_add]; exact hm) ?_
    obtain ⟨r8, qr8, h⟩ := bd_e h
    refine k_call [.agg (ints .u8 a0).toArray, .agg (ints .u8 a1).toArray] rfl (by kernel_rfl) (args2 rfl rfl) (scalar_Add_ok k a0 a1 l_a0 l_a1 _ (hp.toR (fun r hr => by rw [List.mem_singleton] at hr; subst hr; exact .inr (List.mem_of_getElem? (i := 0) rfl))) qr8) ?_
    rintro _ w' ⟨_, rfl, rfl, lr80, hpc⟩
    refine ⟨_, rfl, .inr (.of_below hpc.chg.to_below), ?_⟩; have hp := hp.below hpc.chg.to_below; clear hpc
    obtain ⟨r9, qr9, h⟩ := bd_e h
    refine k_call [.agg (ints .u8 r8).toArray, .agg (ints .u8 a2).toArray] rfl (by kernel_rfl) (args2 rfl rfl) (scalar_Add_ok k r8 a2 lr80 l_a2 _ (hp.toR (fun r hr => by rw [List.mem_singleton] at hr; subst hr; exact .inr (List.mem_of_getElem? (i := 0) rfl))) qr9) ?_
    rintro _ w' ⟨_, rfl, rfl, lr90, hpc⟩
    refine ⟨_, rfl, .inr (.of_below hpc.chg.to_below), ?_⟩; have hp := hp.below hpc.chg.to_below; clear hpc
    obtain ⟨r10, qr10, h⟩ := bd_e h
    refine k_call [.agg (ints .u8 a1).toArray, .agg (ints .u8 a2).toArray] rfl (by kernel_rfl) (args2 rfl rfl) (scalar_Add_ok k a1 a2 l_a1 l_a2 _ (hp.toR (fun r hr => by rw [List.mem_singleton] at hr; subst hr; exact .inr (List.mem_of_getElem? (i := 0) rfl))) qr10) ?_
    rintro _ w' ⟨_, rfl, rfl, lr100, hpc⟩
    refine ⟨_, rfl, .inr (.of_below hpc.chg.to_below), ?_⟩; have hp := hp.below hpc.chg.to_below; clear hpc
    obtain ⟨r11, qr11, h⟩ := bd_e h
    refine k_call [.agg (ints .u8 a0).toArray, .agg (ints .u8 r10).toArray] rfl (by kernel_rfl) (args2 rfl rfl) (scalar_Add_ok k a0 r10 l_a0 lr100 _ (hp.toR (fun r hr => by rw [List.mem_singleton] at hr; subst hr; exact .inr (List.mem_of_getElem? (i := 0) rfl))) qr11) ?_
    rintro _ w' ⟨_, rfl, rfl, lr110, hpc⟩
    refine ⟨_, rfl, .inr (.of_below hpc.chg.to_below), ?_⟩; have hp := hp.below hpc.chg.to_below; clear hpc
    refine k_neI (k := .u8) (l := r9) (l' := r11) rfl Tryd.underlying22 Tryd.underlying5 (by kernel_rfl) (by kernel_rfl) rfl rfl lr90 lr110 ?_
    refine k_pick (b := false) (v := .bool (!(r9 == r11))) rfl rfl rfl rfl rfl ?_
    rcases Bool.eq_false_or_eq_true (!(r9 == r11)) with hb | hb
    · replace h := br_t hb h
      refine k_move (v := .bool true) rfl (Eq.trans (b := .bool (!(r9 == r11))) rfl (congrArg Value.bool hb)) ?_
      refine k_skip_tk rfl ?_
      refine k_skip_tk rfl ?_
      refine k_skip_tk rfl ?_
      refine k_skip_ef rfl ?_
      refine k_skip_ef rfl ?_
      refine k_skip rfl ?_
      refine k_pick (b := true) (v := .bool true) rfl rfl rfl rfl rfl ?_
      refine k_end ?_; intro e133 qe133
      have s3_e133 : e133 3 = .pointer (some ⟨g1, 0, none⟩) := (congrFun qe133 3).trans s3_e
      have s4_e133 : e133 4 = .pointer (some ⟨g2, 0, none⟩) := (congrFun qe133 4).trans s4_e
      have s5_e133 : e133 5 = .pointer (some ⟨g3, 0, none⟩) := (congrFun qe133 5).trans s5_e
      have s7_e133 : e133 7 = .pointer (some ⟨g5, 0, none⟩) := (congrFun qe133 7).trans s7_e
      have s38_e133 : e133 38 = .bool true := congrFun qe133 38
      clear qe133
      exact hQ0 _ _ true  s3_e133 s4_e133 s5_e133 s7_e133 s38_e133 (hp.drop (L' := [⟨g1, 0, ints .u8 a0⟩, ⟨g2, 0, ints .u8 a1⟩, ⟨g3, 0, ints .u8 a2⟩, ⟨g5, 0, ints .u8 (List.replicate 32 (0 : Int))⟩]) (List.Sublist.refl _)) (Option.some.inj h).symm
    · replace h := br_f hb h
      refine k_move (v := .bool false) rfl (Eq.trans (b := .bool (!(r9 == r11))) rfl (congrArg Value.bool hb)) ?_
      refine k_loadA (n := 32) (xs := ints .u8 a0) 0 rfl (by kernel_rfl) (by kernel_rfl) s3_e (hp.get (j := 0) rfl) rfl rfl ((ints_length _ _).trans l_a0) (fun m v hm => by rw [Nat.zero_add]; exact hm) ?_
      refine k_loadA (n := 32) (xs := ints .u8 a0) 0 rfl (by kernel_rfl) (by kernel_rfl) s3_e (hp.get (j := 0) rfl) rfl rfl ((ints_length _ _).trans l_a0) (fun m v hm => by rw [Nat.zero_add]; exact hm) ?_
      refine k_loadA (n := 32) (xs := ints .u8 (List.replicate 32 (0 : Int))) 0 rfl (by kernel_rfl) (by kernel_rfl) s7_e (hp.get (j := 3) rfl) rfl rfl ((ints_length _ _).trans List.length_replicate) (fun m v hm => by rw [Nat.zero_add]; exact hm) ?_
      obtain ⟨r12, qr12, h⟩ := bd_e h
      refine k_call [.agg (ints .u8 a0).toArray] rfl (by kernel_rfl) (args1 rfl) (scalar_Neg_ok k a0 l_a0 _ (hp.toR (fun r hr => by rw [List.mem_singleton] at hr; subst hr; exact .inr (List.mem_of_getElem? (i := 0) rfl))) qr12) ?_
      rintro _ w' ⟨_, rfl, rfl, lr120, hpc⟩
      refine ⟨_, rfl, .inr (.of_below hpc.chg.to_below), ?_⟩; have hp := hp.below hpc.chg.to_below; clear hpc
      obtain ⟨r13, qr13, h⟩ := bd_e h
      refine k_call [.agg (ints .u8 a0).toArray, .agg (ints .u8 r12).toArray] rfl (by kernel_rfl) (args2 rfl rfl) (scalar_Add_ok k a0 r12 l_a0 lr120 _ (hp.toR (fun r hr => by rw [List.mem_singleton] at hr; subst hr; exact .inr (List.mem_of_getElem? (i := 0) rfl))) qr13) ?_
      rintro _ w' ⟨_, rfl, rfl, lr130, hpc⟩
      refine ⟨_, rfl, .inr (.of_below hpc.chg.to_below), ?_⟩; have hp := hp.below hpc.chg.to_below; clear hpc
      refine k_neI (k := .u8) (l := r13) (l' := (List.replicate 32 (0 : Int))) rfl Tryd.underlying22 Tryd.underlying5 (by kernel_rfl) (by kernel_rfl) rfl rfl lr130 List.length_replicate ?_
      refine k_pick (b := false) (v := .bool (!(r13 == (List.replicate 32 (0 : Int))))) rfl rfl rfl rfl rfl ?_
      refine k_end ?_; intro e134 qe134
      have s3_e134 : e134 3 = .pointer (some ⟨g1, 0, none⟩) := (congrFun qe134 3).trans s3_e
      have s4_e134 : e134 4 = .pointer (some ⟨g2, 0, none⟩) := (congrFun qe134 4).trans s4_e
      have s5_e134 : e134 5 = .pointer (some ⟨g3, 0, none⟩) := (congrFun qe134 5).trans s5_e
      have s7_e134 : e134 7 = .pointer (some ⟨g5, 0, none⟩) := (congrFun qe134 7).trans s7_e
      obtain ⟨t14, qt14, h⟩ := lt_e h
      have s38_e134 : e134 38 = .bool t14 := (congrFun qe134 38).trans (congrArg Value.bool qt14.symm)
      clear qe134
      exact hQ0 _ _ t14  s3_e134 s4_e134 s5_e134 s7_e134 s38_e134 (hp.drop (L' := [⟨g1, 0, ints .u8 a0⟩, ⟨g2, 0, ints .u8 a1⟩, ⟨g3, 0, ints .u8 a2⟩, ⟨g5, 0, ints .u8 (List.replicate 32 (0 : Int))⟩]) (List.Sublist.refl _)) (Option.some.inj h).symm
theorem postilionlaw05_ScalarRing.p2_ok {w0 : World} {Ws : List Wr} {Q : Exit → Env → World → Prop} (k : Nat) (g1 g2 g3 g5 : Nat) (a0 : List Int) (a1 : List Int) (a2 : List Int) (l_a0 : a0.length = 32) (l_a1 : a1.length = 32) (l_a2 : a2.length = 32) {r : Bool} (hQ0 : ∀ (e' : Env) (w' : World) (z0 : Bool), e' 6 = .bool z0 → Hp w0 Ws w' [⟨g1, 0, ints .u8 a0⟩, ⟨g2, 0, ints .u8 a1⟩, ⟨g3, 0, ints .u8 a2⟩, ⟨g5, 0, ints .u8 (List.replicate 32 (0 : Int))⟩] [⟨0, 0, ints .u64 [6346243789798364141, 1503914060200516822, 0, 1152921504606846976]⟩] → r = (z0) → Q .normal e' w') (e : Env) (w : World) (s3_e : e 3 = .pointer (some ⟨g1, 0, none⟩)) (s4_e : e 4 = .pointer (some ⟨g2, 0, none⟩)) (s5_e : e 5 = .pointer (some ⟨g3, 0, none⟩)) (s7_e : e 7 = .pointer (some ⟨g5, 0, none⟩)) (hp : Hp w0 Ws w [⟨g1, 0, ints .u8 a0⟩, ⟨g2, 0, ints .u8 a1⟩, ⟨g3, 0, ints .u8 a2⟩, ⟨g5, 0, ints .u8 (List.replicate 32 (0 : Int))⟩] [⟨0, 0, ints .u64 [6346243789798364141, 1503914060200516822, 0, 1152921504606846976]⟩]) (h : postilionlaw05_ScalarRing.p2 k a0 a1 a2 = some r) : Wp Tryd.prog Tryd.f4.ntmps (at_ (fbody Tryd.f4) [1, 1, 1, 1, 0]) Q e w := by
  unfold postilionlaw05_ScalarRing.p2 at h
  refine wregion_d (.tk 0 (.tk 1 (.tk 2 (.tk 4 (.tk 5 (.tk 6 (.tk 8 (.ef 3 (.ef 7 (.ef 9 (.tp 10 (.tp 11 (.tk 12 (.tk 13 (.tk 14 (.tk 16 (.tk 18 (.tk 19 (.tk 20 (.tk 22 (.tk 23 (.tk 24 (.ef 15 (.ef 17 (.ef 21 (.ef 25 (.ef 26 (.tp 27 (.tp 28 (.tp 29 (.done))))))))))))))))))))))))))))))) [] rfl (by kernel_rfl) (by kernel_rfl) (Nat.le_of_ble_eq_true (by kernel_rfl)) (by kernel_rfl) ?_
  have hp := hp.drew
  refine k_loadA (n := 32) (xs := ints .u8 a0) 0 rfl (by kernel_rfl) (by kernel_rfl) s3_e (hp.get (j := 0) rfl) rfl rfl ((ints_length _ _).trans l_a0) (fun m v hm => by rw [Nat.zero_add]; exact hm) ?_
  refine k_loadA (n := 32) (xs := ints .u8 a1) 0 rfl (by kernel_rfl) (by kernel_rfl) s4_e (hp.get (j := 1) rfl) rfl rfl ((ints_length _ _).trans l_a1) (fun m v hm => by rw [Nat.zero_add]; exact hm) ?_
  refine k_loadA (n := 32) (xs := ints .u8 a2) 0 rfl (by kernel_rfl) (by kernel_rfl) s5_e (hp.get (j := 2) rfl) rfl rfl ((ints_length _ _).trans l_a2) (fun m v hm => by rw [Nat.zero_add]; exact hm) ?_
  refine k_loadA (n := 32) (xs := ints .u8 a1) 0 rfl (by kernel_rfl) (by kernel_rfl) s4_e (hp.get (j := 1) rfl) rfl rfl ((ints_length _ _).trans l_a1) (fun m v hm => by rw [Nat.zero_add]; exact hm) ?_
  refine k_loadA (n := 32) (xs := ints .u8 a0) 0 rfl (by kernel_rfl) (by kernel_rfl) s3_e (hp.get (j := 0) rfl) rfl rfl ((ints_length _ _).trans l_a0) (fun m v hm => by rw [Nat.zero_add]; exact hm) ?_
  refine k_loadA (n := 32) (xs := ints .u8 (List.replicate 32 (0 : Int))) 0 rfl (by kernel_rfl) (by kernel_rfl) s7_e (hp.get (j := 3) rfl) rfl rfl ((ints_length _ _).trans List.length_replicate) (fun m v hm => by rw [Nat.zero_add]; exact hm) ?_
  refine k_loadA (n := 32) (xs := ints .u8 a2) 0 rfl (by kernel_rfl) (by kernel_rfl) s5_e (hp.get (j := 2) rfl) rfl rfl ((ints_length _ _).trans l_a2) (fun m v hm => by rw [Nat.zero_add]; exact hm) ?_
  obtain ⟨r17, qr17, h⟩ := bd_e h
  refine k_call [.agg (ints .u8 a0).toArray, .agg (ints .u8 a1).toArray, .agg (ints .u8 a2).toArray] rfl (by kernel_rfl) (args3 rfl rfl rfl) (scalar_MulAdd_ok k a0 a1 a2 l_a0 l_a1 l_a2 _ (hp.toR (fun r hr => by rw [List.mem_singleton] at hr; subst hr; exact .inr (List.mem_of_getElem? (i := 0) rfl))) qr17) ?_
  rintro _ w' ⟨_, rfl, rfl, lr170, hpc⟩
  refine ⟨_, rfl, .inr (.of_below hpc.chg.to_below), ?_⟩; have hp := hp.below hpc.chg.to_below; clear hpc
  obtain ⟨r18, qr18, h⟩ := bd_e h
  refine k_call [.agg (ints .u8 a1).toArray, .agg (ints .u8 a0).toArray, .agg (ints .u8 (List.replicate 32 (0 : Int))).toArray] rfl (by kernel_rfl) (args3 rfl rfl rfl) (scalar_MulAdd_ok k a1 a0 (List.replicate 32 (0 : Int)) l_a1 l_a0 List.length_replicate _ (hp.toR (fun r hr => by rw [List.mem_singleton] at hr; subst hr; exact .inr (List.mem_of_getElem? (i := 0) rfl))) qr18) ?_
  rintro _ w' ⟨_, rfl, rfl, lr180, hpc⟩
  refine ⟨_, rfl, .inr (.of_below hpc.chg.to_below), ?_⟩; have hp := hp.below hpc.chg.to_below; clear hpc
  obtain ⟨r19, qr19, h⟩ := bd_e h
  refine k_call [.agg (ints .u8 r18).toArray, .agg (ints .u8 a2).toArray] rfl (by kernel_rfl) (args2 rfl rfl) (scalar_Add_ok k r18 a2 lr180 l_a2 _ (hp.toR (fun r hr => by rw [List.mem_singleton] at hr; subst hr; exact .inr (List.mem_of_getElem? (i := 0) rfl))) qr19) ?_
  rintro _ w' ⟨_, rfl, rfl, lr190, hpc⟩
  refine ⟨_, rfl, .inr (.of_below hpc.chg.to_below), ?_⟩; have hp := hp.below hpc.chg.to_below; clear hpc
  refine k_eqI (k := .u8) (l := r17) (l' := r19) rfl Tryd.underlying22 Tryd.underlying5 (by kernel_rfl) (by kernel_rfl) rfl rfl lr170 lr190 ?_
  rcases Bool.eq_false_or_eq_true (r17 == r19) with hb | hb
  · replace h := br_t hb h
    refine k_move (v := .bool true) rfl (Eq.trans (b := .bool (r17 == r19)) rfl (congrArg Value.bool hb)) ?_
    refine k_loadA (n := 32) (xs := ints .u8 a0) 0 rfl (by kernel_rfl) (by kernel_rfl) s3_e (hp.get (j := 0) rfl) rfl rfl ((ints_length _ _).trans l_a0) (fun m v hm => by rw [Nat.zero_add]; exact hm) ?_
    refine k_loadA (n := 32) (xs := ints .u8 a1) 0 rfl (by kernel_rfl) (by kernel_rfl) s4_e (hp.get (j := 1) rfl) rfl rfl ((ints_length _ _).trans l_a1) (fun m v hm => by rw [Nat.zero_add]; exact hm) ?_
    refine k_loadA (n := 32) (xs := ints .u8 a2) 0 rfl (by kernel_rfl) (by kernel_rfl) s5_e (hp.get (j := 2) rfl) rfl rfl ((ints_length _ _).trans l_a2) (fun m v hm => by rw [Nat.zero_add]; exact hm) ?_
    refine k_loadA (n := 32) (xs := ints .u8 (List.replicate 32 (0 : Int))) 0 rfl (by kernel_rfl) (by kernel_rfl) s7_e (hp.get (j := 3) rfl) rfl rfl ((ints_length _ _).trans List.length_replicate) (fun m v hm => by rw [Nat.zero_add]; exact hm) ?_
    refine k_loadA (n := 32) (xs := ints .u8 a0) 0 rfl (by kernel_rfl) (by kernel_rfl) s3_e (hp.get (j := 0) rfl) rfl rfl ((ints_length _ _).trans l_a0) (fun m v hm => by rw [Nat.zero_add]; exact hm) ?_
    refine k_loadA (n := 32) (xs := ints .u8 a1) 0 rfl (by kernel_rfl) (by kernel_rfl) s4_e (hp.get (j := 1) rfl) rfl rfl ((ints_length _ _).trans l_a1) (fun m v hm => by rw [Nat.zero_add]; exact hm) ?_
    refine k_loadA (n := 32) (xs := ints .u8 (List.replicate 32 (0 : Int))) 0 rfl (by kernel_rfl) (by kernel_rfl) s7_e (hp.get (j := 3) rfl) rfl rfl ((ints_length _ _).trans List.length_replicate) (fun m v hm => by rw [Nat.zero_add]; exact hm) ?_
    refine k_loadA (n := 32) (xs := ints .u8 a0) 0 rfl (by kernel_rfl) (by kernel_rfl) s3_e (hp.get (j := 0) rfl) rfl rfl ((ints_length _ _).trans l_a0) (fun m v hm => by rw [Nat.zero_add]; exact hm) ?_
    refine k_loadA (n := 32) (xs := ints .u8 a2) 0 rfl (by kernel_rfl) (by kernel_rfl) s5_e (hp.get (j := 2) rfl) rfl rfl ((ints_length _ _).trans l_a2) (fun m v hm => by rw [Nat.zero_add]; exact hm) ?_
    refine k_loadA (n := 32) (xs := ints .u8 (List.replicate 32 (0 : Int))) 0 rfl (by kernel_rfl) (by kernel_rfl) s7_e (hp.get (j := 3) rfl) rfl rfl ((ints_length _ _).trans List.length_replicate) (fun m v hm => by rw [Nat.zero_add]; exact hm) ?_
    obtain ⟨r20, qr20, h⟩ := bd_e h
    refine k_call [.agg (ints .u8 a1).toArray, .agg (ints .u8 a2).toArray] rfl (by kernel_rfl) (args2 rfl rfl) (scalar_Add_ok k a1 a2 l_a1 l_a2 _ (hp.toR (fun r hr => by rw [List.mem_singleton] at hr; subst hr; exact .inr (List.mem_of_getElem? (i := 0) rfl))) qr20) ?_
    rintro _ w' ⟨_, rfl, rfl, lr200, hpc⟩
    refine ⟨_, rfl, .inr (.of_below hpc.chg.to_below), ?_⟩; have hp := hp.below hpc.chg.to_below; clear hpc
    obtain ⟨r21, qr21, h⟩ := bd_e h
    refine k_call [.agg (ints .u8 a0).toArray, .agg (ints .u8 r20).toArray, .agg (ints .u8 (List.replicate 32 (0 : Int))).toArray] rfl (by kernel_rfl) (args3 rfl rfl rfl) (scalar_MulAdd_ok k a0 r20 (List.replicate 32 (0 : Int)) l_a0 lr200 List.length_replicate _ (hp.toR (fun r hr => by rw [List.mem_singleton] at hr; subst hr; exact .inr (List.mem_of_getElem? (i := 0) rfl))) qr21) ?_
    rintro _ w' ⟨_, rfl, rfl, lr210, hpc⟩
    refine ⟨_, rfl, .inr (.of_below hpc.chg.to_below), ?_⟩; have hp := hp.below hpc.chg.to_below; clear hpc
    obtain ⟨r22, qr22, h⟩ := bd_e h
    refine k_call [.agg (ints .u8 a0).toArray, .agg (ints .u8 a1).toArray, .agg (ints .u8 (List.replicate 32 (0 : Int))).toArray] rfl (by kernel_rfl) (args3 rfl rfl rfl) (scalar_MulAdd_ok k a0 a1 (List.replicate 32 (0 : Int)) l_a0 l_a1 List.length_replicate _ (hp.toR (fun r hr => by rw [List.mem_singleton] at hr; subst hr; exact .inr (List.mem_of_getElem? (i := 0) rfl))) qr22) ?_
    rintro _ w' ⟨_, rfl, rfl, lr220, hpc⟩
    refine ⟨_, rfl, .inr (.of_below hpc.chg.to_below), ?_⟩; have hp := hp.below hpc.chg.to_below; clear hpc
    obtain ⟨r23, qr23, h⟩ := bd_e h
    refine k_call [.agg (ints .u8 a0).toArray, .agg (ints .u8 a2).toArray, .agg (ints .u8 (List.replicate 32 (0 : Int))).toArray] rfl (by kernel_rfl) (args3 rfl rfl rfl) (scalar_MulAdd_ok k a0 a2 (List.replicate 32 (0 : Int)) l_a0 l_a2 List.length_replicate _ (hp.toR (fun r hr => by rw [List.mem_singleton] at hr; subst hr; exact .inr (List.mem_of_getElem? (i := 0) rfl))) qr23) ?_
    rintro _ w' ⟨_, rfl, rfl, lr230, hpc⟩
    refine ⟨_, rfl, .inr (.of_below hpc.chg.to_below), ?_⟩; have hp := hp.below hpc.chg.to_below; clear hpc
    obtain ⟨r24, qr24, h⟩ := bd_e h
    refine k_call [.agg (ints .u8 r22).toArray, .agg (ints .u8 r23).toArray] rfl (by kernel_rfl) (args2 rfl rfl) (scalar_Add_ok k r22 r23 lr220 lr230 _ (hp.toR (fun r hr => by rw [List.mem_singleton] at hr; subst hr; exact .inr (List.mem_of_getElem? (i := 0) rfl))) qr24) ?_
    rintro _ w' ⟨_, rfl, rfl, lr240, hpc⟩
    refine ⟨_, rfl, .inr (.of_below hpc.chg.to_below), ?_⟩; have hp := hp.below hpc.chg.to_below; clear hpc
    refine k_eqI (k := .u8) (l := r21) (l' := r24) rfl Tryd.underlying22 Tryd.underlying5 (by kernel_rfl) (by kernel_rfl) rfl rfl lr210 lr240 ?_
    refine k_pick (b := true) (v := .bool (r21 == r24)) rfl rfl rfl rfl rfl ?_
    refine k_assign (v := .bool (r21 == r24)) rfl rfl ?_
    refine k_end ?_; intro e137 qe137
    have s6_e137 : e137 6 = .bool (r21 == r24) := congrFun qe137 6
    clear qe137
    exact hQ0 _ _ (r21 == r24)  s6_e137 (hp.drop (L' := [⟨g1, 0, ints .u8 a0⟩, ⟨g2, 0, ints .u8 a1⟩, ⟨g3, 0, ints .u8 a2⟩, ⟨g5, 0, ints .u8 (List.replicate 32 (0 : Int))⟩]) (List.Sublist.refl _)) (Option.some.inj h).symm
  · replace h := br_f hb h
    refine k_move (v := .bool false) rfl (Eq.trans (b := .bool (r17 == r19)) rfl (congrArg Value.bool hb)) ?_
    refine k_skip_tk rfl ?_
    refine k_skip_tk rfl ?_
    refine k_skip_tk rfl ?_
    refine k_skip_tk rfl ?_
    refine k_skip_tk rfl ?_
    refine k_skip_tk rfl ?_
    refine k_skip_tk rfl ?_
    refine k_skip_tk rfl ?_
    refine k_skip_tk rfl ?_
    refine k_skip_tk rfl ?_
    refine k_skip_ef rfl ?_
    refine k_skip_ef rfl ?_
    refine k_skip_ef rfl ?_
    refine k_skip_ef rfl ?_
    refine k_skip_ef rfl ?_
    refine k_skip rfl ?_
    refine k_pick (b := false) (v := .bool false) rfl rfl rfl rfl rfl ?_
    refine k_assign (v := .bool false) rfl rfl ?_
    refine k_end ?_; intro e138 qe138
    have s6_e138 : e138 6 = .bool false := congrFun qe138 6
    clear qe138
    exact hQ0 _ _ false  s6_e138 (hp.drop (L' := [⟨g1, 0, ints .u8 a0⟩, ⟨g2, 0, ints .u8 a1⟩, ⟨g3, 0, ints .u8 a2⟩, ⟨g5, 0, ints .u8 (List.replicate 32 (0 : Int))⟩]) (List.Sublist.refl _)) (Option.some.inj h).symm
theorem postilionlaw05_ScalarRing_ok (k : Nat) (a0 : List Int) (a1 : List Int) (a2 : List Int) (la0 : a0.length = 32) (la1 : a1.length = 32) (la2 : a2.length = 32) (w0 : World) (hp : Hp w0 [] w0 [] [⟨0, 0, ints .u64 [6346243789798364141, 1503914060200516822, 0, 1152921504606846976]⟩]) {r : Bool} (h : postilionlaw05_ScalarRing.f k a0 a1 a2 = some r) :
    Calls Tryd.prog 4 [.agg (ints .u8 a0).toArray, .agg (ints .u8 a1).toArray, .agg (ints .u8 a2).toArray].toArray w0 fun x w' => ∃ v, x = .returned v ∧ v = .bool r ∧ Hp w0 [] w' [] [⟨0, 0, ints .u64 [6346243789798364141, 1503914060200516822, 0, 1152921504606846976]⟩] := by
  refine calls_in Tryd.func4 rfl (Nat.le_of_ble_eq_true (by kernel_rfl)) (by kernel_rfl) ?_
  intro e0 qe0
  have s0_e0 : e0 0 = .agg (ints .u8 a0).toArray := congrFun qe0 0
  have s1_e0 : e0 1 = .agg (ints .u8 a1).toArray := congrFun qe0 1
  have s2_e0 : e0 2 = .agg (ints .u8 a2).toArray := congrFun qe0 2
  clear qe0
  unfold postilionlaw05_ScalarRing.f at h
  refine wseq rfl ?_
  refine wregion (.ef 0 (.ef 1 (.ef 2 (.tp 3 (.done))))) [] rfl (by kernel_rfl) (by kernel_rfl) ?_
  refine k_box (v := .agg (ints .u8 a0).toArray) (ints .u8 a0) rfl s0_e0 rfl hp ?_
  intro g1 w hbg1 hp
  refine k_box (v := .agg (ints .u8 a1).toArray) (ints .u8 a1) rfl s1_e0 rfl hp ?_
  intro g2 w hbg2 hp
  refine k_box (v := .agg (ints .u8 a2).toArray) (ints .u8 a2) rfl s2_e0 rfl hp ?_
  intro g3 w hbg3 hp
  refine k_assign (v := .bool false) rfl rfl ?_
  refine k_end ?_; intro e128 qe128
  have s3_e128 : e128 3 = .pointer (some ⟨g1, 0, none⟩) := congrFun qe128 3
  have s4_e128 : e128 4 = .pointer (some ⟨g2, 0, none⟩) := congrFun qe128 4
  have s5_e128 : e128 5 = .pointer (some ⟨g3, 0, none⟩) := congrFun qe128 5
  clear qe128
  refine wseq rfl ?_
  refine wseq rfl ?_
  refine wregion (.ef 0 (.tp 1 (.done))) [] rfl (by kernel_rfl) (by kernel_rfl) ?_
  obtain ⟨r4, qr4, h⟩ := bd_e h
  refine k_call [] rfl (by kernel_rfl) (args0 ) (postilionlaw05_awake_ok k   _ (hp.toR (fun r hr => by rw [List.mem_singleton] at hr; subst hr; exact .inr (List.mem_of_getElem? (i := 0) rfl))) qr4) ?_
  rintro _ w' ⟨_, rfl, rfl, hpc⟩
  refine ⟨_, rfl, .inr (.of_below hpc.chg.to_below), ?_⟩; have hp := hp.below hpc.chg.to_below; clear hpc
  refine k_not (b := r4) rfl rfl ?_
  refine k_end ?_; intro e129 qe129
  have s3_e129 : e129 3 = .pointer (some ⟨g1, 0, none⟩) := (congrFun qe129 3).trans s3_e128
  have s4_e129 : e129 4 = .pointer (some ⟨g2, 0, none⟩) := (congrFun qe129 4).trans s4_e128
  have s5_e129 : e129 5 = .pointer (some ⟨g3, 0, none⟩) := (congrFun qe129 5).trans s5_e128
  have s9_e129 : e129 9 = .bool (!r4) := congrFun qe129 9
  clear qe129
  refine wcond (t := (!r4)) rfl (by decide) s9_e129 (fun hb => ?_) (fun hb => ?_)
  · replace h := br_t hb h
    refine wseq rfl ?_
    refine wregion (.tp 0 (.done)) [] rfl (by kernel_rfl) (by kernel_rfl) ?_
    refine k_assign (v := .bool false) rfl rfl ?_
    refine k_end ?_; intro e130 qe130
    have s6_e130 : e130 6 = .bool false := congrFun qe130 6
    clear qe130
    refine wret rfl ?_
    have hr : r = false := (Option.some.inj h).symm
    show RetP _ _ _ _ _
    rw [hr]
    exact ret_i [.bool false] (res_tmp s6_e130 res_nil) ⟨rfl, hp.none⟩
  · replace h := br_f hb h
    refine wskip rfl ?_
    refine wseq rfl ?_
    refine wregion (.tp 0 (.ef 1 (.ef 2 (.done)))) [2] rfl (by kernel_rfl) (by kernel_rfl) ?_
    refine k_build (v := .agg (ints .u8 (List.replicate 32 (0 : Int))).toArray) rfl (fun _ => by kernel_rfl) ?_
    refine k_alloc (ints .u8 (List.replicate 32 (0 : Int))) rfl (by kernel_rfl) hp ?_
    intro g5 w hbg5 hp
    refine k_storeA (v := .agg (ints .u8 (List.replicate 32 (0 : Int))).toArray) 3 0 (r := ⟨g5, 0, ints .u8 (List.replicate 32 (0 : Int))⟩) (ints .u8 (List.replicate 32 (0 : Int))) (ints .u8 (List.replicate 32 (0 : Int))) rfl (n := 32) (by kernel_rfl) rfl rfl rfl ((ints_length _ _).trans List.length_replicate) (ints_one _ _) hp rfl rfl rfl (Nat.le_of_eq ((Nat.zero_add _).trans ((ints_length _ _).trans List.length_replicate).symm)) (setMany_all _ _ (((ints_length _ _).trans List.length_replicate).trans ((ints_length _ _).trans List.length_replicate).symm)) (by decide) ?_; intro w hp
    refine k_end ?_; intro e131 qe131
    have s3_e131 : e131 3 = .pointer (some ⟨g1, 0, none⟩) := (congrFun qe131 3).trans s3_e129
    have s4_e131 : e131 4 = .pointer (some ⟨g2, 0, none⟩) := (congrFun qe131 4).trans s4_e129
    have s5_e131 : e131 5 = .pointer (some ⟨g3, 0, none⟩) := (congrFun qe131 5).trans s5_e129
    have s7_e131 : e131 7 = .pointer (some ⟨g5, 0, none⟩) := congrFun qe131 7
    clear qe131
    refine wseq rfl ?_
    refine wseq rfl ?_
    obtain ⟨r15, qr15, h⟩ := bd_e h
    refine postilionlaw05_ScalarRing.p1_ok k g1 g2 g3 g5 a0 a1 a2 la0 la1 la2 ?hq0 e131 _ s3_e131 s4_e131 s5_e131 s7_e131 hp qr15
    case hq0 =>
      intro e135 w m16  s3_e135 s4_e135 s5_e135 s7_e135 s38_e135 hp qq
      rw [qq] at h; clear qq
      refine wcond (t := m16) rfl (by decide) s38_e135 (fun hb => ?_) (fun hb => ?_)
      · replace h := br_t hb h
        refine wseq rfl ?_
        refine wregion (.tp 0 (.done)) [] rfl (by kernel_rfl) (by kernel_rfl) ?_
        refine k_assign (v := .bool false) rfl rfl ?_
        refine k_end ?_; intro e136 qe136
        have s6_e136 : e136 6 = .bool false := congrFun qe136 6
        clear qe136
        refine wret rfl ?_
        have hr : r = false := (Option.some.inj h).symm
        show RetP _ _ _ _ _
        rw [hr]
        exact ret_i [.bool false] (res_tmp s6_e136 res_nil) ⟨rfl, hp.none⟩
      · replace h := br_f hb h
        refine wskip rfl ?_
        refine wseq rfl ?_
        obtain ⟨r25, qr25, h⟩ := bd_e h
        refine postilionlaw05_ScalarRing.p2_ok k g1 g2 g3 g5 a0 a1 a2 la0 la1 la2 ?hq0 e135 _ s3_e135 s4_e135 s5_e135 s7_e135 hp qr25
        case hq0 =>
          intro e139 w m26  s6_e139 hp qq
          rw [qq] at h; clear qq
          refine wret rfl ?_
          have hr : r = m26 := (Option.some.inj h).symm
          show RetP _ _ _ _ _
          rw [hr]
          exact ret_i [.bool m26] (res_tmp s6_e139 res_nil) ⟨rfl, hp.none⟩
/-! 5 postilion/postilionlaw05.ScalarCanonical -/
theorem postilionlaw05_ScalarCanonical.p1_ok {w0 : World} {Ws : List Wr} {Q : Exit → Env → World → Prop} (k : Nat) (g1 g2 g4 : Nat) (r5 : List Int) (a0 : List Int) (a1 : List Int) (l_a0 : a0.length = 32) (l_a1 : a1.length = 32) (l_r5 : r5.length = 32) {r : Bool} (hQ0 : ∀ (e' : Env) (w' : World) (z0 : Bool), e' 4 = .bool z0 → Hp w0 Ws w' [⟨g1, 0, ints .u8 a0⟩, ⟨g2, 0, ints .u8 a1⟩, ⟨g4, 0, ints .u8 (List.replicate 32 (0 : Int))⟩] [⟨0, 0, ints .u64 [6346243789798364141, 1503914060200516822, 0, 1152921504606846976]⟩] → r = (z0) → Q .normal e' w') (e : Env) (w : World) (s2_e : e 2 = .pointer (some ⟨g1, 0, none⟩)) (s3_e : e 3 = .pointer (some ⟨g2, 0, none⟩)) (s6_e : e 6 = .bool (r5 == a0)) (hp : Hp w0 Ws w [⟨g1, 0, ints .u8 a0⟩, ⟨g2, 0, ints .u8 a1⟩, ⟨g4, 0, ints .u8 (List.replicate 32 (0 : Int))⟩] [⟨0, 0, ints .u64 [6346243789798364141, 1503914060200516822, 0, 1152921504606846976]⟩]) (h : postilionlaw05_ScalarCanonical.p1 k r5 a0 a1 = some r) : Wp Tryd.prog Tryd.f5.ntmps (at_ (fbody Tryd.f5) [1, 1, 1, 1, 0]) Q e w := by
  unfold postilionlaw05_ScalarCanonical.p1 at h
  refine wregion (.tk 0 (.tk 1 (.ef 2 (.ef 3 (.tp 4 (.tk 5 (.ef 6 (.ef 7 (.tp 8 (.tp 9 (.tk 10 (.tk 11 (.tk 12 (.ef 13 (.ef 14 (.tp 15 (.tp 16 (.tk 17 (.ef 18 (.tp 19 (.tp 20 (.tp 21 (.tp 22 (.done)))))))))))))))))))))))) [] rfl (by kernel_rfl) (by kernel_rfl) ?_
  refine k_loadA (n := 32) (xs := ints .u8 a0) 0 rfl (by kernel_rfl) (by kernel_rfl) s2_e (hp.get (j := 0) rfl) rfl rfl ((ints_length _ _).trans l_a0) (fun m v hm => by rw [Nat.zero_add]; exact hm) ?_
  refine k_loadA (n := 32) (xs := ints .u8 a1) 0 rfl (by kernel_rfl) (by kernel_rfl) s3_e (hp.get (j := 1) rfl) rfl rfl ((ints_length _ _).trans l_a1) (fun m v hm => by rw [Nat.zero_add]; exact hm) ?_
  obtain ⟨r6, qr6, h⟩ := bd_e h
  refine k_call [.agg (ints .u8 a0).toArray, .agg (ints .u8 a1).toArray] rfl (by kernel_rfl) (args2 rfl rfl) (scalar_Add_ok k a0 a1 l_a0 l_a1 _ (hp.toR (fun r hr => by rw [List.mem_singleton] at hr; subst hr; exact .inr (List.mem_of_getElem? (i := 0) rfl))) qr6) ?_
  rintro _ w' ⟨_, rfl, rfl, lr60, hpc⟩
  refine ⟨_, rfl, .inr (.of_below hpc.chg.to_below), ?_⟩; have hp := hp.below hpc.chg.to_below; clear hpc
  obtain ⟨r7, qr7, h⟩ := bd_e h
  refine k_call [.agg (ints .u8 r6).toArray] rfl (by kernel_rfl) (args1 rfl) (scalar_Canonical_ok k r6 lr60 _ (hp.toR (fun r hr => by rw [List.mem_singleton] at hr; subst hr; exact .inr (List.mem_of_getElem? (i := 0) rfl))) qr7) ?_
  rintro _ w' ⟨_, rfl, rfl, hpc⟩
  refine ⟨_, rfl, .inr (.of_below hpc.chg.to_below), ?_⟩; have hp := hp.below hpc.chg.to_below; clear hpc
  rcases Bool.eq_false_or_eq_true r7 with hb | hb
  · replace h := br_t hb h
    refine k_move (v := .bool true) rfl (Eq.trans (b := .bool r7) rfl (congrArg Value.bool hb)) ?_
    refine k_loadA (n := 32) (xs := ints .u8 a0) 0 rfl (by kernel_rfl) (by kernel_rfl) s2_e (hp.get (j := 0) rfl) rfl rfl ((ints_length _ _).trans l_a0) (fun m v hm => by rw [Nat.zero_add]; exact hm) ?_
    obtain ⟨r8, qr8, h⟩ := bd_e h
    refine k_call [.agg (ints .u8 a0).toArray] rfl (by kernel_rfl) (args1 rfl) (scalar_Neg_ok k a0 l_a0 _ (hp.toR (fun r hr => by rw [List.mem_singleton] at hr; subst hr; exact .inr (List.mem_of_getElem? (i := 0) rfl))) qr8) ?_
    rintro _ w' ⟨_, rfl, rfl, lr80, hpc⟩
    refine ⟨_, rfl, .inr (.of_below hpc.chg.to_below), ?_⟩; have hp := hp.below hpc.chg.to_below; clear hpc
    obtain ⟨r9, qr9, h⟩ := bd_e h
    refine k_call [.agg (ints .u8 r8).toArray] rfl (by kernel_rfl) (args1 rfl) (scalar_Canonical_ok k r8 lr80 _ (hp.toR (fun r hr => by rw [List.mem_singleton] at hr; subst hr; exact .inr (List.mem_of_getElem? (i := 0) rfl))) qr9) ?_
    rintro _ w' ⟨_, rfl, rfl, hpc⟩
    refine ⟨_, rfl, .inr (.of_below hpc.chg.to_below), ?_⟩; have hp := hp.below hpc.chg.to_below; clear hpc
    refine k_pick (b := true) (v := .bool r9) rfl rfl rfl rfl rfl ?_
    rcases Bool.eq_false_or_eq_true r9 with hb | hb
    · replace h := br_t hb h
      refine k_move (v := .bool true) rfl (Eq.trans (b := .bool r9) rfl (congrArg Value.bool hb)) ?_
      refine k_loadA (n := 32) (xs := ints .u8 a0) 0 rfl (by kernel_rfl) (by kernel_rfl) s2_e (hp.get (j := 0) rfl) rfl rfl ((ints_length _ _).trans l_a0) (fun m v hm => by rw [Nat.zero_add]; exact hm) ?_
      refine k_loadA (n := 32) (xs := ints .u8 a1) 0 rfl (by kernel_rfl) (by kernel_rfl) s3_e (hp.get (j := 1) rfl) rfl rfl ((ints_length _ _).trans l_a1) (fun m v hm => by rw [Nat.zero_add]; exact hm) ?_
      refine k_loadA (n := 32) (xs := ints .u8 a0) 0 rfl (by kernel_rfl) (by kernel_rfl) s2_e (hp.get (j := 0) rfl) rfl rfl ((ints_length _ _).trans l_a0) (fun m v hm => by rw [Nat.zero_add]; exact hm) ?_
      obtain ⟨r10, qr10, h⟩ := bd_e h
      refine k_call [.agg (ints .u8 a0).toArray, .agg (ints .u8 a1).toArray, .agg (ints .u8 a0).toArray] rfl (by kernel_rfl) (args3 rfl rfl rfl) (scalar_MulAdd_ok k a0 a1 a0 l_a0 l_a1 l_a0 _ (hp.toR (fun r hr => by rw [List.mem_singleton] at hr; subst hr; exact .inr (List.mem_of_getElem? (i := 0) rfl))) qr10) ?_
      rintro _ w' ⟨_, rfl, rfl, lr100, hpc⟩
      refine ⟨_, rfl, .inr (.of_below hpc.chg.to_below), ?_⟩; have hp := hp.below hpc.chg.to_below; clear hpc
      obtain ⟨r11, qr11, h⟩ := bd_e h
      refine k_call [.agg (ints .u8 r10).toArray] rfl (by kernel_rfl) (args1 rfl) (scalar_Canonical_ok k r10 lr100 _ (hp.toR (fun r hr => by rw [List.mem_singleton] at hr; subst hr; exact .inr (List.mem_of_getElem? (i := 0) rfl))) qr11) ?_
      rintro _ w' ⟨_, rfl, rfl, hpc⟩
      refine ⟨_, rfl, .inr (.of_below hpc.chg.to_below), ?_⟩; have hp := hp.below hpc.chg.to_below; clear hpc
      refine k_pick (b := true) (v := .bool r11) rfl rfl rfl rfl rfl ?_
      rcases Bool.eq_false_or_eq_true r11 with hb | hb
      · replace h := br_t hb h
        refine k_move (v := .bool true) rfl (Eq.trans (b := .bool r11) rfl (congrArg Value.bool hb)) ?_
        refine k_loadA (n := 32) (xs := ints .u8 a0) 0 rfl (by kernel_rfl) (by kernel_rfl) s2_e (hp.get (j := 0) rfl) rfl rfl ((ints_length _ _).trans l_a0) (fun m v hm => by rw [Nat.zero_add]; exact hm) ?_
        obtain ⟨r12, qr12, h⟩ := bd_e h
        refine k_call [.agg (ints .u8 a0).toArray] rfl (by kernel_rfl) (args1 rfl) (scalar_Canonical_ok k a0 l_a0 _ (hp.toR (fun r hr => by rw [List.mem_singleton] at hr; subst hr; exact .inr (List.mem_of_getElem? (i := 0) rfl))) qr12) ?_
        rintro _ w' ⟨_, rfl, rfl, hpc⟩
        refine ⟨_, rfl, .inr (.of_below hpc.chg.to_below), ?_⟩; have hp := hp.below hpc.chg.to_below; clear hpc
        refine k_move (v := .bool (r5 == a0)) rfl s6_e ?_
        refine k_eqB (a := r12) (b := (r5 == a0)) rfl Tryd.underlying4 rfl rfl ?_
        refine k_pick (b := true) (v := .bool (r12 == (r5 == a0))) rfl rfl rfl rfl rfl ?_
        refine k_assign (v := .bool (r12 == (r5 == a0))) rfl rfl ?_
        refine k_end ?_; intro e145 qe145
        have s4_e145 : e145 4 = .bool (r12 == (r5 == a0)) := congrFun qe145 4
        clear qe145
        exact hQ0 _ _ (r12 == (r5 == a0))  s4_e145 (hp.drop (L' := [⟨g1, 0, ints .u8 a0⟩, ⟨g2, 0, ints .u8 a1⟩, ⟨g4, 0, ints .u8 (List.replicate 32 (0 : Int))⟩]) (List.Sublist.refl _)) (Option.some.inj h).symm
      · replace h := br_f hb h
        refine k_move (v := .bool false) rfl (Eq.trans (b := .bool r11) rfl (congrArg Value.bool hb)) ?_
        refine k_skip_tk rfl ?_
        refine k_skip_ef rfl ?_
        refine k_skip rfl ?_
        refine k_skip rfl ?_
        refine k_pick (b := false) (v := .bool false) rfl rfl rfl rfl rfl ?_
        refine k_assign (v := .bool false) rfl rfl ?_
        refine k_end ?_; intro e146 qe146
        have s4_e146 : e146 4 = .bool false := congrFun qe146 4
        clear qe146
        exact hQ0 _ _ false  s4_e146 (hp.drop (L' := [⟨g1, 0, ints .u8 a0⟩, ⟨g2, 0, ints .u8 a1⟩, ⟨g4, 0, ints .u8 (List.replicate 32 (0 : Int))⟩]) (List.Sublist.refl _)) (Option.some.inj h).symm
    · replace h := br_f hb h
      refine k_move (v := .bool false) rfl (Eq.trans (b := .bool r9) rfl (congrArg Value.bool hb)) ?_
      refine k_skip_tk rfl ?_
      refine k_skip_tk rfl ?_
      refine k_skip_tk rfl ?_
      refine k_skip_ef rfl ?_
      refine k_skip_ef rfl ?_
      refine k_pick (b := false) (v := .bool false) rfl rfl rfl rfl rfl ?_
      refine k_move (v := .bool false) rfl rfl ?_
      refine k_skip_tk rfl ?_
      refine k_skip_ef rfl ?_
      refine k_skip rfl ?_
      refine k_skip rfl ?_
      refine k_pick (b := false) (v := .bool false) rfl rfl rfl rfl rfl ?_
      refine k_assign (v := .bool false) rfl rfl ?_
      refine k_end ?_; intro e147 qe147
      have s4_e147 : e147 4 = .bool false := congrFun qe147 4
      clear qe147
      exact hQ0 _ _ false  s4_e147 (hp.drop (L' := [⟨g1, 0, ints .u8 a0⟩, ⟨g2, 0, ints .u8 a1⟩, ⟨g4, 0, ints .u8 (List.replicate 32 (0 : Int))⟩]) (List.Sublist.refl _)) (Option.some.inj h).symm
  · replace h := br_f hb h
    refine k_move (v := .bool false) rfl (Eq.trans (b := .bool r7) rfl (congrArg Value.bool hb)) ?_
    refine k_skip_tk rfl ?_
    refine k_skip_ef rfl ?_
    refine k_skip_ef rfl ?_
    refine k_pick (b := false) (v := .bool false) rfl rfl rfl rfl rfl ?_
    refine k_move (v := .bool false) rfl rfl ?_
    refine k_skip_tk rfl ?_
    refine k_skip_tk rfl ?_
    refine k_skip_tk rfl ?_
    refine k_skip_ef rfl ?_
    refine k_skip_ef rfl ?_
    refine k_pick (b := false) (v := .bool false) rfl rfl rfl rfl rfl ?_
    refine k_move (v := .bool false) rfl rfl ?_
    refine k_skip_tk rfl ?_
    refine k_skip_ef rfl ?_
    refine k_skip rfl ?_
    refine k_skip rfl ?_
    refine k_pick (b := false) (v := .bool false) rfl rfl rfl rfl rfl ?_
    refine k_assign (v := .bool false) rfl rfl ?_
    refine k_end ?_; intro e148 qe148
    have s4_e148 : e148 4 = .bool false := congrFun qe148 4
    clear qe148
    exact hQ0 _ _ false  s4_e148 (hp.drop (L' := [⟨g1, 0, ints .u8 a0⟩, ⟨g2, 0, ints .u8 a1⟩, ⟨g4, 0, ints .u8 (List.replicate 32 (0 : Int))⟩]) (List.Sublist.refl _)) (Option.some.inj h).symm
theorem postilionlaw05_ScalarCanonical_ok (k : Nat) (a0 : List Int) (a1 : List Int) (la0 : a0.length = 32) (la1 : a1.length = 32) (w0 : World) (hp : Hp w0 [] w0 [] [⟨0, 0, ints .u64 [6346243789798364141, 1503914060200516822, 0, 1152921504606846976]⟩]) {r : Bool} (h : postilionlaw05_ScalarCanonical.f k a0 a1 = some r) :
    Calls Tryd.prog 5 [.agg (ints .u8 a0).toArray, .agg (ints .u8 a1).toArray].toArray w0 fun x w' => ∃ v, x = .returned v ∧ v = .bool r ∧ Hp w0 [] w' [] [⟨0, 0, ints .u64 [6346243789798364141, 1503914060200516822, 0, 1152921504606846976]⟩] := by
  refine calls_in Tryd.func5 rfl (Nat.le_of_ble_eq_true (by kernel_rfl)) (by kernel_rfl) ?_
  intro e0 qe0
  have s0_e0 : e0 0 = .agg (ints .u8 a0).toArray := congrFun qe0 0
  have s1_e0 : e0 1 = .agg (ints .u8 a1).toArray := congrFun qe0 1
  clear qe0
  unfold postilionlaw05_ScalarCanonical.f at h
  refine wseq rfl ?_
  refine wregion (.ef 0 (.ef 1 (.tp 2 (.done)))) [] rfl (by kernel_rfl) (by kernel_rfl) ?_
  refine k_box (v := .agg (ints .u8 a0).toArray) (ints .u8 a0) rfl s0_e0 rfl hp ?_
  intro g1 w hbg1 hp
  refine k_box (v := .agg (ints .u8 a1).toArray) (ints .u8 a1) rfl s1_e0 rfl hp ?_
  intro g2 w hbg2 hp
  refine k_assign (v := .bool false) rfl rfl ?_
  refine k_end ?_; intro e140 qe140
  have s2_e140 : e140 2 = .pointer (some ⟨g1, 0, none⟩) := congrFun qe140 2
  have s3_e140 : e140 3 = .pointer (some ⟨g2, 0, none⟩) := congrFun qe140 3
  clear qe140
  refine wseq rfl ?_
  refine wseq rfl ?_
  refine wregion (.ef 0 (.tp 1 (.done))) [] rfl (by kernel_rfl) (by kernel_rfl) ?_
  obtain ⟨r3, qr3, h⟩ := bd_e h
  refine k_call [] rfl (by kernel_rfl) (args0 ) (postilionlaw05_awake_ok k   _ (hp.toR (fun r hr => by rw [List.mem_singleton] at hr; subst hr; exact .inr (List.mem_of_getElem? (i := 0) rfl))) qr3) ?_
  rintro _ w' ⟨_, rfl, rfl, hpc⟩
  refine ⟨_, rfl, .inr (.of_below hpc.chg.to_below), ?_⟩; have hp := hp.below hpc.chg.to_below; clear hpc
  refine k_not (b := r3) rfl rfl ?_
  refine k_end ?_; intro e141 qe141
  have s2_e141 : e141 2 = .pointer (some ⟨g1, 0, none⟩) := (congrFun qe141 2).trans s2_e140
  have s3_e141 : e141 3 = .pointer (some ⟨g2, 0, none⟩) := (congrFun qe141 3).trans s3_e140
  have s8_e141 : e141 8 = .bool (!r3) := congrFun qe141 8
  clear qe141
  refine wcond (t := (!r3)) rfl (by decide) s8_e141 (fun hb => ?_) (fun hb => ?_)
  · replace h := br_t hb h
    refine wseq rfl ?_
    refine wregion (.tp 0 (.done)) [] rfl (by kernel_rfl) (by kernel_rfl) ?_
    refine k_assign (v := .bool false) rfl rfl ?_
    refine k_end ?_; intro e142 qe142
    have s4_e142 : e142 4 = .bool false := congrFun qe142 4
    clear qe142
    refine wret rfl ?_
    have hr : r = false := (Option.some.inj h).symm
    show RetP _ _ _ _ _
    rw [hr]
    exact ret_i [.bool false] (res_tmp s4_e142 res_nil) ⟨rfl, hp.none⟩
  · replace h := br_f hb h
    refine wskip rfl ?_
    refine wseq rfl ?_
    refine wregion (.tp 0 (.ef 1 (.ef 2 (.done)))) [2] rfl (by kernel_rfl) (by kernel_rfl) ?_
    refine k_build (v := .agg (ints .u8 (List.replicate 32 (0 : Int))).toArray) rfl (fun _ => by kernel_rfl) ?_
    refine k_alloc (ints .u8 (List.replicate 32 (0 : Int))) rfl (by kernel_rfl) hp ?_
    intro g4 w hbg4 hp
    refine k_storeA (v := .agg (ints .u8 (List.replicate 32 (0 : Int))).toArray) 2 0 (r := ⟨g4, 0, ints .u8 (List.replicate 32 (0 : Int))⟩) (ints .u8 (List.replicate 32 (0 : Int))) (ints .u8 (List.replicate 32 (0 : Int))) rfl (n := 32) (by kernel_rfl) rfl rfl rfl ((ints_length _ _).trans List.length_replicate) (ints_one _ _) hp rfl rfl rfl (Nat.le_of_eq ((Nat.zero_add _).trans ((ints_length _ _).trans List.length_replicate).symm)) (setMany_all _ _ (((ints_length _ _).trans List.length_replicate).trans ((ints_length _ _).trans List.length_replicate).symm)) (by decide) ?_; intro w hp
    refine k_end ?_; intro e143 qe143
    have s2_e143 : e143 2 = .pointer (some ⟨g1, 0, none⟩) := (congrFun qe143 2).trans s2_e141
    have s3_e143 : e143 3 = .pointer (some ⟨g2, 0, none⟩) := (congrFun qe143 3).trans s3_e141
    have s5_e143 : e143 5 = .pointer (some ⟨g4, 0, none⟩) := congrFun qe143 5
    clear qe143
    refine wseq rfl ?_
    refine wregion_d (.tk 0 (.tk 1 (.tk 3 (.ef 2 (.tp 4 (.tp 5 (.done))))))) [] rfl (by kernel_rfl) (by kernel_rfl) (Nat.le_of_ble_eq_true (by kernel_rfl)) (by kernel_rfl) ?_
    have hp := hp.drew
    refine k_loadA (n := 32) (xs := ints .u8 a0) 0 rfl (by kernel_rfl) (by kernel_rfl) s2_e143 (hp.get (j := 0) rfl) rfl rfl ((ints_length _ _).trans la0) (fun m v hm => by rw [Nat.zero_add]; exact hm) ?_
    refine k_loadA (n := 32) (xs := ints .u8 (List.replicate 32 (0 : Int))) 0 rfl (by kernel_rfl) (by kernel_rfl) s5_e143 (hp.get (j := 2) rfl) rfl rfl ((ints_length _ _).trans List.length_replicate) (fun m v hm => by rw [Nat.zero_add]; exact hm) ?_
    refine k_loadA (n := 32) (xs := ints .u8 a0) 0 rfl (by kernel_rfl) (by kernel_rfl) s2_e143 (hp.get (j := 0) rfl) rfl rfl ((ints_length _ _).trans la0) (fun m v hm => by rw [Nat.zero_add]; exact hm) ?_
    obtain ⟨r5, qr5, h⟩ := bd_e h
    refine k_call [.agg (ints .u8 a0).toArray, .agg (ints .u8 (List.replicate 32 (0 : Int))).toArray] rfl (by kernel_rfl) (args2 rfl rfl) (scalar_Add_ok k a0 (List.replicate 32 (0 : Int)) la0 List.length_replicate _ (hp.toR (fun r hr => by rw [List.mem_singleton] at hr; subst hr; exact .inr (List.mem_of_getElem? (i := 0) rfl))) qr5) ?_
    rintro _ w' ⟨_, rfl, rfl, lr50, hpc⟩
    refine ⟨_, rfl, .inr (.of_below hpc.chg.to_below), ?_⟩; have hp := hp.below hpc.chg.to_below; clear hpc
    refine k_eqI (k := .u8) (l := r5) (l' := a0) rfl Tryd.underlying22 Tryd.underlying5 (by kernel_rfl) (by kernel_rfl) rfl rfl lr50 la0 ?_
    refine k_assign (v := .bool (r5 == a0)) rfl rfl ?_
    refine k_end ?_; intro e144 qe144
    have s2_e144 : e144 2 = .pointer (some ⟨g1, 0, none⟩) := (congrFun qe144 2).trans s2_e143
    have s3_e144 : e144 3 = .pointer (some ⟨g2, 0, none⟩) := (congrFun qe144 3).trans s3_e143
    have s6_e144 : e144 6 = .bool (r5 == a0) := congrFun qe144 6
    clear qe144
    refine wseq rfl ?_
    obtain ⟨r13, qr13, h⟩ := bd_e h
    refine postilionlaw05_ScalarCanonical.p1_ok k g1 g2 g4 r5 a0 a1 la0 la1 lr50 ?hq0 e144 _ s2_e144 s3_e144 s6_e144 hp qr13
    case hq0 =>
      intro e149 w m14  s4_e149 hp qq
      rw [qq] at h; clear qq
      refine wret rfl ?_
      have hr : r = m14 := (Option.some.inj h).symm
      show RetP _ _ _ _ _
      rw [hr]
      exact ret_i [.bool m14] (res_tmp s4_e149 res_nil) ⟨rfl, hp.none⟩
end Go.Proofs.YtpnkcajlgaokiaaDoor
