/-
  The walks: each function of the program form returns what its plain definition computes. Printed by my own program.
  Conditions: none; every function is taken as the given program's form has it.
-/
import Derived.Test.YtalnjdcidmkajaaProg
import Derived.Test.YtalnjdcidmkajaaGp
namespace Go.Proofs.Ytalnjdcidmkajaa
open Go Go.Gx Go.RowKit
set_option linter.unusedVariables false
set_option maxRecDepth 100000
theorem ext61 : Try.prog.funcs[61]? = some Try.f61 ∧ (Try.f61.name == "runtime.NumGoroutine") = false ∧ Try.f61.body.isNone = true ∧ Extern.findNext Try.f61 = none ∧ Extern.find Try.f61 = some add64Entry :=
  ⟨Try.func61, by kernel_rfl, by kernel_rfl, by kernel_rfl, by kernel_rfl⟩
theorem ext85 : Try.prog.funcs[85]? = some Try.f85 ∧ (Try.f85.name == "runtime.NumGoroutine") = false ∧ Try.f85.body.isNone = true ∧ Extern.findNext Try.f85 = none ∧ Extern.find Try.f85 = some sub64Entry :=
  ⟨Try.func85, by kernel_rfl, by kernel_rfl, by kernel_rfl, by kernel_rfl⟩
/-! 51 postilion/field.One -/
noncomputable def field_One.o1 : Array Oper := opsC (at_ (fbody Try.f51) [0])
noncomputable def field_One.o2 : Array Oper := opsC (at_ (fbody Try.f51) [1, 0])
theorem field_One_ok  (w0 : World) (hp : Hp w0 [] w0 [] []) {r : List Int} (h : field_One.f  = some r) :
    Calls Try.prog 51 [].toArray w0 fun x w' => ∃ v, x = .returned v ∧ v = .agg (ints .u64 r).toArray ∧ r.length = 5 ∧ Hp w0 [] w' [] [] := by
  refine calls_inP Try.func51 rfl (Nat.le_of_ble_eq_true (by kernel_rfl)) (by kernel_rfl) ?_
  intro e0 qe0
  clear qe0
  unfold field_One.f at h
  refine wseqP (p0 := [0]) (p1 := [1]) rfl rfl rfl ?_
  refine wregionT field_One.o1 (.ef 0 (.done)) [] rfl rfl (by kernel_rfl) (by kernel_rfl) ?_
  refine k_alloc (ints .u64 (List.replicate 5 (0 : Int))) rfl (by kernel_rfl) hp ?_
  intro g1 w hbg1 hp
  refine k_end ?_; intro e1 qe1
  have s0_e1 : e1 0 = .pointer (some ⟨g1, 0, none⟩) := congrFun qe1 0
  clear qe1
  refine wseqP (p0 := [1, 0]) (p1 := [1, 1]) rfl rfl rfl ?_
  refine wregionT field_One.o2 (.tp 0 (.ef 1 (.done))) [1] rfl rfl (by kernel_rfl) (by kernel_rfl) ?_
  refine k_build (v := .agg (ints .u64 ((List.replicate 5 (0 : Int)).set 0 1)).toArray) rfl (fun _ => by kernel_rfl) ?_
  refine k_storeA (v := .agg (ints .u64 ((List.replicate 5 (0 : Int)).set 0 1)).toArray) 0 0 (r := ⟨g1, 0, ints .u64 (List.replicate 5 (0 : Int))⟩) (ints .u64 ((List.replicate 5 (0 : Int)).set 0 1)) (ints .u64 ((List.replicate 5 (0 : Int)).set 0 1)) rfl (n := 5) (by kernel_rfl) s0_e1 rfl rfl ((ints_length _ _).trans (List.length_set.trans List.length_replicate)) (ints_one _ _) hp rfl rfl rfl (Nat.le_of_eq ((Nat.zero_add _).trans ((ints_length _ _).trans List.length_replicate).symm)) (setMany_all _ _ (((ints_length _ _).trans (List.length_set.trans List.length_replicate)).trans ((ints_length _ _).trans List.length_replicate).symm)) (by decide) ?_; intro w hp
  refine k_end ?_; intro e2 qe2
  have s0_e2 : e2 0 = .pointer (some ⟨g1, 0, none⟩) := (congrFun qe2 0).trans s0_e1
  clear qe2
  refine wret rfl ?_
  have hr : r = ((List.replicate 5 (0 : Int)).set 0 1) := (Option.some.inj h).symm
  show RetP _ _ _ _ _
  rw [hr]
  exact ret_i [.agg (ints .u64 ((List.replicate 5 (0 : Int)).set 0 1)).toArray] (res_cell s0_e2 (loadVar_agg (by kernel_rfl) (by kernel_rfl) ((ints_length _ _).trans (List.length_set.trans List.length_replicate)) (hp.get (j := 0) rfl) rfl rfl rfl) res_nil) ⟨rfl, (List.length_set.trans List.length_replicate), hp.none⟩
/-! 88 math/bits.Mul64 -/
noncomputable def math_bits_Mul64.o1 : Array Oper := opsC (at_ (fbody Try.f88) [0])
noncomputable def math_bits_Mul64.o2 : Array Oper := opsC (at_ (fbody Try.f88) [1, 0])
noncomputable def math_bits_Mul64.o3 : Array Oper := opsC (at_ (fbody Try.f88) [1, 1, 0])
noncomputable def math_bits_Mul64.o4 : Array Oper := opsC (at_ (fbody Try.f88) [1, 1, 1, 0])
noncomputable def math_bits_Mul64.o5 : Array Oper := opsC (at_ (fbody Try.f88) [1, 1, 1, 1, 0])
noncomputable def math_bits_Mul64.o6 : Array Oper := opsC (at_ (fbody Try.f88) [1, 1, 1, 1, 1, 0])
noncomputable def math_bits_Mul64.o7 : Array Oper := opsC (at_ (fbody Try.f88) [1, 1, 1, 1, 1, 1, 0])
noncomputable def math_bits_Mul64.o8 : Array Oper := opsC (at_ (fbody Try.f88) [1, 1, 1, 1, 1, 1, 1, 0])
noncomputable def math_bits_Mul64.o9 : Array Oper := opsC (at_ (fbody Try.f88) [1, 1, 1, 1, 1, 1, 1, 1, 0])
noncomputable def math_bits_Mul64.o10 : Array Oper := opsC (at_ (fbody Try.f88) [1, 1, 1, 1, 1, 1, 1, 1, 1, 0])
noncomputable def math_bits_Mul64.o11 : Array Oper := opsC (at_ (fbody Try.f88) [1, 1, 1, 1, 1, 1, 1, 1, 1, 1, 0])
noncomputable def math_bits_Mul64.o12 : Array Oper := opsC (at_ (fbody Try.f88) [1, 1, 1, 1, 1, 1, 1, 1, 1, 1, 1, 0])
theorem math_bits_Mul64_ok (a0 : Int) (a1 : Int) (w0 : World) (hp : Hp w0 [] w0 [] []) {r : Int × Int} (h : math_bits_Mul64.f a0 a1 = some r) :
    Calls Try.prog 88 [.int .u64 a0, .int .u64 a1].toArray w0 fun x w' => ∃ v, x = .returned v ∧ v = .tuple #[.int .u64 r.1, .int .u64 r.2] ∧ Hp w0 [] w' [] [] := by
  refine calls_inP Try.func88 rfl (Nat.le_of_ble_eq_true (by kernel_rfl)) (by kernel_rfl) ?_
  intro e0 qe0
  have s0_e0 : e0 0 = .int .u64 a0 := congrFun qe0 0
  have s1_e0 : e0 1 = .int .u64 a1 := congrFun qe0 1
  clear qe0
  unfold math_bits_Mul64.f at h
  refine wseqP (p0 := [0]) (p1 := [1]) rfl rfl rfl ?_
  refine wregionT math_bits_Mul64.o1 (.tp 0 (.tp 1 (.done))) [] rfl rfl (by kernel_rfl) (by kernel_rfl) ?_
  refine k_assign (v := .int .u64 0) rfl rfl ?_
  refine k_assign (v := .int .u64 0) rfl rfl ?_
  refine k_end ?_; intro e3 qe3
  have s0_e3 : e3 0 = .int .u64 a0 := (congrFun qe3 0).trans s0_e0
  have s1_e3 : e3 1 = .int .u64 a1 := (congrFun qe3 1).trans s1_e0
  clear qe3
  refine wseqP (p0 := [1, 0]) (p1 := [1, 1]) rfl rfl rfl ?_
  refine wregionT math_bits_Mul64.o2 (.tp 0 (.tp 1 (.tp 2 (.done)))) [] rfl rfl (by kernel_rfl) (by kernel_rfl) ?_
  refine k_move (v := .int .u64 a0) rfl s0_e3 ?_
  refine k_bin (X := .int .u64 a0) (Y := .int .u64 4294967295) rfl rfl rfl rfl ?_
  refine k_assign (v := .int .u64 (bits .and .u64 a0 4294967295)) rfl rfl ?_
  refine k_end ?_; intro e4 qe4
  have s0_e4 : e4 0 = .int .u64 a0 := (congrFun qe4 0).trans s0_e3
  have s1_e4 : e4 1 = .int .u64 a1 := (congrFun qe4 1).trans s1_e3
  obtain ⟨x1, qx1, h⟩ := lt_e h
  have s6_e4 : e4 6 = .int .u64 x1 := (congrFun qe4 6).trans (congrArg (Value.int .u64) qx1.symm)
  clear qe4
  refine wseqP (p0 := [1, 1, 0]) (p1 := [1, 1, 1]) rfl rfl rfl ?_
  refine wregionT math_bits_Mul64.o3 (.tp 0 (.tp 1 (.tp 2 (.done)))) [] rfl rfl (by kernel_rfl) (by kernel_rfl) ?_
  refine k_move (v := .int .u64 a0) rfl s0_e4 ?_
  refine k_shr (a := a0) (b := 32) rfl rfl rfl (by decide) ?_
  refine k_assign (v := .int .u64 (Int.fdiv a0 (2 ^ 32))) rfl rfl ?_
  refine k_end ?_; intro e5 qe5
  have s0_e5 : e5 0 = .int .u64 a0 := (congrFun qe5 0).trans s0_e4
  have s1_e5 : e5 1 = .int .u64 a1 := (congrFun qe5 1).trans s1_e4
  have s6_e5 : e5 6 = .int .u64 x1 := (congrFun qe5 6).trans s6_e4
  obtain ⟨x2, qx2, h⟩ := lt_e h
  have s7_e5 : e5 7 = .int .u64 x2 := (congrFun qe5 7).trans (congrArg (Value.int .u64) qx2.symm)
  clear qe5
  refine wseqP (p0 := [1, 1, 1, 0]) (p1 := [1, 1, 1, 1]) rfl rfl rfl ?_
  refine wregionT math_bits_Mul64.o4 (.tp 0 (.tp 1 (.tp 2 (.done)))) [] rfl rfl (by kernel_rfl) (by kernel_rfl) ?_
  refine k_move (v := .int .u64 a1) rfl s1_e5 ?_
  refine k_bin (X := .int .u64 a1) (Y := .int .u64 4294967295) rfl rfl rfl rfl ?_
  refine k_assign (v := .int .u64 (bits .and .u64 a1 4294967295)) rfl rfl ?_
  refine k_end ?_; intro e6 qe6
  have s0_e6 : e6 0 = .int .u64 a0 := (congrFun qe6 0).trans s0_e5
  have s1_e6 : e6 1 = .int .u64 a1 := (congrFun qe6 1).trans s1_e5
  have s6_e6 : e6 6 = .int .u64 x1 := (congrFun qe6 6).trans s6_e5
  have s7_e6 : e6 7 = .int .u64 x2 := (congrFun qe6 7).trans s7_e5
  obtain ⟨x3, qx3, h⟩ := lt_e h
  have s8_e6 : e6 8 = .int .u64 x3 := (congrFun qe6 8).trans (congrArg (Value.int .u64) qx3.symm)
  clear qe6
  refine wseqP (p0 := [1, 1, 1, 1, 0]) (p1 := [1, 1, 1, 1, 1]) rfl rfl rfl ?_
  refine wregionT math_bits_Mul64.o5 (.tp 0 (.tp 1 (.tp 2 (.done)))) [] rfl rfl (by kernel_rfl) (by kernel_rfl) ?_
  refine k_move (v := .int .u64 a1) rfl s1_e6 ?_
  refine k_shr (a := a1) (b := 32) rfl rfl rfl (by decide) ?_
  refine k_assign (v := .int .u64 (Int.fdiv a1 (2 ^ 32))) rfl rfl ?_
  refine k_end ?_; intro e7 qe7
  have s0_e7 : e7 0 = .int .u64 a0 := (congrFun qe7 0).trans s0_e6
  have s1_e7 : e7 1 = .int .u64 a1 := (congrFun qe7 1).trans s1_e6
  have s6_e7 : e7 6 = .int .u64 x1 := (congrFun qe7 6).trans s6_e6
  have s7_e7 : e7 7 = .int .u64 x2 := (congrFun qe7 7).trans s7_e6
  have s8_e7 : e7 8 = .int .u64 x3 := (congrFun qe7 8).trans s8_e6
  obtain ⟨x4, qx4, h⟩ := lt_e h
  have s9_e7 : e7 9 = .int .u64 x4 := (congrFun qe7 9).trans (congrArg (Value.int .u64) qx4.symm)
  clear qe7
  refine wseqP (p0 := [1, 1, 1, 1, 1, 0]) (p1 := [1, 1, 1, 1, 1, 1]) rfl rfl rfl ?_
  refine wregionT math_bits_Mul64.o6 (.tp 0 (.tp 1 (.tp 2 (.tp 3 (.done))))) [] rfl rfl (by kernel_rfl) (by kernel_rfl) ?_
  refine k_move (v := .int .u64 x1) rfl s6_e7 ?_
  refine k_move (v := .int .u64 x3) rfl s8_e7 ?_
  refine k_bin (X := .int .u64 x1) (Y := .int .u64 x3) rfl rfl rfl rfl ?_
  refine k_assign (v := .int .u64 (IntKind.u64.wrap (x1 * x3))) rfl rfl ?_
  refine k_end ?_; intro e8 qe8
  have s0_e8 : e8 0 = .int .u64 a0 := (congrFun qe8 0).trans s0_e7
  have s1_e8 : e8 1 = .int .u64 a1 := (congrFun qe8 1).trans s1_e7
  have s6_e8 : e8 6 = .int .u64 x1 := (congrFun qe8 6).trans s6_e7
  have s7_e8 : e8 7 = .int .u64 x2 := (congrFun qe8 7).trans s7_e7
  have s8_e8 : e8 8 = .int .u64 x3 := (congrFun qe8 8).trans s8_e7
  have s9_e8 : e8 9 = .int .u64 x4 := (congrFun qe8 9).trans s9_e7
  obtain ⟨x5, qx5, h⟩ := lt_e h
  have s10_e8 : e8 10 = .int .u64 x5 := (congrFun qe8 10).trans (congrArg (Value.int .u64) qx5.symm)
  clear qe8
  refine wseqP (p0 := [1, 1, 1, 1, 1, 1, 0]) (p1 := [1, 1, 1, 1, 1, 1, 1]) rfl rfl rfl ?_
  refine wregionT math_bits_Mul64.o7 (.tp 0 (.tp 1 (.tp 2 (.tp 3 (.tp 4 (.tp 5 (.tp 6 (.done)))))))) [] rfl rfl (by kernel_rfl) (by kernel_rfl) ?_
  refine k_move (v := .int .u64 x2) rfl s7_e8 ?_
  refine k_move (v := .int .u64 x3) rfl s8_e8 ?_
  refine k_bin (X := .int .u64 x2) (Y := .int .u64 x3) rfl rfl rfl rfl ?_
  refine k_move (v := .int .u64 x5) rfl s10_e8 ?_
  refine k_shr (a := x5) (b := 32) rfl rfl rfl (by decide) ?_
  refine k_bin (X := .int .u64 (IntKind.u64.wrap (x2 * x3))) (Y := .int .u64 (Int.fdiv x5 (2 ^ 32))) rfl rfl rfl rfl ?_
  refine k_assign (v := .int .u64 (IntKind.u64.wrap ((IntKind.u64.wrap (x2 * x3)) + (Int.fdiv x5 (2 ^ 32))))) rfl rfl ?_
  refine k_end ?_; intro e9 qe9
  have s0_e9 : e9 0 = .int .u64 a0 := (congrFun qe9 0).trans s0_e8
  have s1_e9 : e9 1 = .int .u64 a1 := (congrFun qe9 1).trans s1_e8
  have s6_e9 : e9 6 = .int .u64 x1 := (congrFun qe9 6).trans s6_e8
  have s7_e9 : e9 7 = .int .u64 x2 := (congrFun qe9 7).trans s7_e8
  have s9_e9 : e9 9 = .int .u64 x4 := (congrFun qe9 9).trans s9_e8
  obtain ⟨x6, qx6, h⟩ := lt_e h
  have s11_e9 : e9 11 = .int .u64 x6 := (congrFun qe9 11).trans (congrArg (Value.int .u64) qx6.symm)
  clear qe9
  refine wseqP (p0 := [1, 1, 1, 1, 1, 1, 1, 0]) (p1 := [1, 1, 1, 1, 1, 1, 1, 1]) rfl rfl rfl ?_
  refine wregionT math_bits_Mul64.o8 (.tp 0 (.tp 1 (.tp 2 (.done)))) [] rfl rfl (by kernel_rfl) (by kernel_rfl) ?_
  refine k_move (v := .int .u64 x6) rfl s11_e9 ?_
  refine k_bin (X := .int .u64 x6) (Y := .int .u64 4294967295) rfl rfl rfl rfl ?_
  refine k_assign (v := .int .u64 (bits .and .u64 x6 4294967295)) rfl rfl ?_
  refine k_end ?_; intro e10 qe10
  have s0_e10 : e10 0 = .int .u64 a0 := (congrFun qe10 0).trans s0_e9
  have s1_e10 : e10 1 = .int .u64 a1 := (congrFun qe10 1).trans s1_e9
  have s6_e10 : e10 6 = .int .u64 x1 := (congrFun qe10 6).trans s6_e9
  have s7_e10 : e10 7 = .int .u64 x2 := (congrFun qe10 7).trans s7_e9
  have s9_e10 : e10 9 = .int .u64 x4 := (congrFun qe10 9).trans s9_e9
  have s11_e10 : e10 11 = .int .u64 x6 := (congrFun qe10 11).trans s11_e9
  obtain ⟨x7, qx7, h⟩ := lt_e h
  have s12_e10 : e10 12 = .int .u64 x7 := (congrFun qe10 12).trans (congrArg (Value.int .u64) qx7.symm)
  clear qe10
  refine wseqP (p0 := [1, 1, 1, 1, 1, 1, 1, 1, 0]) (p1 := [1, 1, 1, 1, 1, 1, 1, 1, 1]) rfl rfl rfl ?_
  refine wregionT math_bits_Mul64.o9 (.tp 0 (.tp 1 (.tp 2 (.done)))) [] rfl rfl (by kernel_rfl) (by kernel_rfl) ?_
  refine k_move (v := .int .u64 x6) rfl s11_e10 ?_
  refine k_shr (a := x6) (b := 32) rfl rfl rfl (by decide) ?_
  refine k_assign (v := .int .u64 (Int.fdiv x6 (2 ^ 32))) rfl rfl ?_
  refine k_end ?_; intro e11 qe11
  have s0_e11 : e11 0 = .int .u64 a0 := (congrFun qe11 0).trans s0_e10
  have s1_e11 : e11 1 = .int .u64 a1 := (congrFun qe11 1).trans s1_e10
  have s6_e11 : e11 6 = .int .u64 x1 := (congrFun qe11 6).trans s6_e10
  have s7_e11 : e11 7 = .int .u64 x2 := (congrFun qe11 7).trans s7_e10
  have s9_e11 : e11 9 = .int .u64 x4 := (congrFun qe11 9).trans s9_e10
  have s12_e11 : e11 12 = .int .u64 x7 := (congrFun qe11 12).trans s12_e10
  obtain ⟨x8, qx8, h⟩ := lt_e h
  have s13_e11 : e11 13 = .int .u64 x8 := (congrFun qe11 13).trans (congrArg (Value.int .u64) qx8.symm)
  clear qe11
  refine wseqP (p0 := [1, 1, 1, 1, 1, 1, 1, 1, 1, 0]) (p1 := [1, 1, 1, 1, 1, 1, 1, 1, 1, 1]) rfl rfl rfl ?_
  refine wregionT math_bits_Mul64.o10 (.tp 0 (.tp 1 (.tp 2 (.tp 3 (.tp 4 (.tp 5 (.done))))))) [] rfl rfl (by kernel_rfl) (by kernel_rfl) ?_
  refine k_move (v := .int .u64 x7) rfl s12_e11 ?_
  refine k_move (v := .int .u64 x1) rfl s6_e11 ?_
  refine k_move (v := .int .u64 x4) rfl s9_e11 ?_
  refine k_bin (X := .int .u64 x1) (Y := .int .u64 x4) rfl rfl rfl rfl ?_
  refine k_bin (X := .int .u64 x7) (Y := .int .u64 (IntKind.u64.wrap (x1 * x4))) rfl rfl rfl rfl ?_
  refine k_assign (v := .int .u64 (IntKind.u64.wrap (x7 + (IntKind.u64.wrap (x1 * x4))))) rfl rfl ?_
  refine k_end ?_; intro e12 qe12
  have s0_e12 : e12 0 = .int .u64 a0 := (congrFun qe12 0).trans s0_e11
  have s1_e12 : e12 1 = .int .u64 a1 := (congrFun qe12 1).trans s1_e11
  have s7_e12 : e12 7 = .int .u64 x2 := (congrFun qe12 7).trans s7_e11
  have s9_e12 : e12 9 = .int .u64 x4 := (congrFun qe12 9).trans s9_e11
  obtain ⟨x9, qx9, h⟩ := lt_e h
  have s12_e12 : e12 12 = .int .u64 x9 := (congrFun qe12 12).trans (congrArg (Value.int .u64) qx9.symm)
  have s13_e12 : e12 13 = .int .u64 x8 := (congrFun qe12 13).trans s13_e11
  clear qe12
  refine wseqP (p0 := [1, 1, 1, 1, 1, 1, 1, 1, 1, 1, 0]) (p1 := [1, 1, 1, 1, 1, 1, 1, 1, 1, 1, 1]) rfl rfl rfl ?_
  refine wregionT math_bits_Mul64.o11 (.tp 0 (.tp 1 (.tp 2 (.tp 3 (.tp 4 (.tp 5 (.tp 6 (.tp 7 (.tp 8 (.done)))))))))) [] rfl rfl (by kernel_rfl) (by kernel_rfl) ?_
  refine k_move (v := .int .u64 x2) rfl s7_e12 ?_
  refine k_move (v := .int .u64 x4) rfl s9_e12 ?_
  refine k_bin (X := .int .u64 x2) (Y := .int .u64 x4) rfl rfl rfl rfl ?_
  refine k_move (v := .int .u64 x8) rfl s13_e12 ?_
  refine k_bin (X := .int .u64 (IntKind.u64.wrap (x2 * x4))) (Y := .int .u64 x8) rfl rfl rfl rfl ?_
  refine k_move (v := .int .u64 x9) rfl s12_e12 ?_
  refine k_shr (a := x9) (b := 32) rfl rfl rfl (by decide) ?_
  refine k_bin (X := .int .u64 (IntKind.u64.wrap ((IntKind.u64.wrap (x2 * x4)) + x8))) (Y := .int .u64 (Int.fdiv x9 (2 ^ 32))) rfl rfl rfl rfl ?_
  refine k_assign (v := .int .u64 (IntKind.u64.wrap ((IntKind.u64.wrap ((IntKind.u64.wrap (x2 * x4)) + x8)) + (Int.fdiv x9 (2 ^ 32))))) rfl rfl ?_
  refine k_end ?_; intro e13 qe13
  have s0_e13 : e13 0 = .int .u64 a0 := (congrFun qe13 0).trans s0_e12
  have s1_e13 : e13 1 = .int .u64 a1 := (congrFun qe13 1).trans s1_e12
  obtain ⟨x10, qx10, h⟩ := lt_e h
  have s4_e13 : e13 4 = .int .u64 x10 := (congrFun qe13 4).trans (congrArg (Value.int .u64) qx10.symm)
  clear qe13
  refine wseqP (p0 := [1, 1, 1, 1, 1, 1, 1, 1, 1, 1, 1, 0]) (p1 := [1, 1, 1, 1, 1, 1, 1, 1, 1, 1, 1, 1]) rfl rfl rfl ?_
  refine wregionT math_bits_Mul64.o12 (.tp 0 (.tp 1 (.tp 2 (.tp 3 (.done))))) [] rfl rfl (by kernel_rfl) (by kernel_rfl) ?_
  refine k_move (v := .int .u64 a0) rfl s0_e13 ?_
  refine k_move (v := .int .u64 a1) rfl s1_e13 ?_
  refine k_bin (X := .int .u64 a0) (Y := .int .u64 a1) rfl rfl rfl rfl ?_
  refine k_assign (v := .int .u64 (IntKind.u64.wrap (a0 * a1))) rfl rfl ?_
  refine k_end ?_; intro e14 qe14
  have s4_e14 : e14 4 = .int .u64 x10 := (congrFun qe14 4).trans s4_e13
  obtain ⟨x11, qx11, h⟩ := lt_e h
  have s5_e14 : e14 5 = .int .u64 x11 := (congrFun qe14 5).trans (congrArg (Value.int .u64) qx11.symm)
  clear qe14
  refine wret rfl ?_
  have hr : r = (x10, x11) := (Option.some.inj h).symm
  show RetP _ _ _ _ _
  rw [hr]
  exact ret_i [.int .u64 x10, .int .u64 x11] (res_tmp s4_e14 (res_tmp s5_e14 res_nil)) ⟨rfl, hp.none⟩
/-! 78 (postilion/field.wide).add -/
noncomputable def field_wide_add.o1 : Array Oper := opsC (at_ (fbody Try.f78) [0])
noncomputable def field_wide_add.o2 : Array Oper := opsC (at_ (fbody Try.f78) [1, 0])
noncomputable def field_wide_add.o3 : Array Oper := opsC (at_ (fbody Try.f78) [1, 1, 0])
noncomputable def field_wide_add.o4 : Array Oper := opsC (at_ (fbody Try.f78) [1, 1, 1, 0])
theorem field_wide_add_ok (a0 : List Int) (a1 : Int) (a2 : Int) (la0 : a0.length = 2) (w0 : World) (hp : Hp w0 [] w0 [] []) {r : List Int} (h : field_wide_add.f a0 a1 a2 = some r) :
    Calls Try.prog 78 [.agg (ints .u64 a0).toArray, .int .u64 a1, .int .u64 a2].toArray w0 fun x w' => ∃ v, x = .returned v ∧ v = .agg (ints .u64 r).toArray ∧ r.length = 2 ∧ Hp w0 [] w' [] [] := by
  refine calls_inP Try.func78 rfl (Nat.le_of_ble_eq_true (by kernel_rfl)) (by kernel_rfl) ?_
  intro e0 qe0
  have s0_e0 : e0 0 = .agg (ints .u64 a0).toArray := congrFun qe0 0
  have s1_e0 : e0 1 = .int .u64 a1 := congrFun qe0 1
  have s2_e0 : e0 2 = .int .u64 a2 := congrFun qe0 2
  clear qe0
  unfold field_wide_add.f at h
  refine wseqP (p0 := [0]) (p1 := [1]) rfl rfl rfl ?_
  refine wregionT field_wide_add.o1 (.ef 0 (.ef 1 (.done))) [] rfl rfl (by kernel_rfl) (by kernel_rfl) ?_
  refine k_box (v := .agg (ints .u64 a0).toArray) (ints .u64 a0) rfl s0_e0 rfl hp ?_
  intro g1 w hbg1 hp
  refine k_alloc (ints .u64 (List.replicate 2 (0 : Int))) rfl (by kernel_rfl) hp ?_
  intro g2 w hbg2 hp
  refine k_end ?_; intro e15 qe15
  have s1_e15 : e15 1 = .int .u64 a1 := (congrFun qe15 1).trans s1_e0
  have s2_e15 : e15 2 = .int .u64 a2 := (congrFun qe15 2).trans s2_e0
  have s3_e15 : e15 3 = .pointer (some ⟨g1, 0, none⟩) := congrFun qe15 3
  have s6_e15 : e15 6 = .pointer (some ⟨g2, 0, none⟩) := congrFun qe15 6
  clear qe15
  refine wseqP (p0 := [1, 0]) (p1 := [1, 1]) rfl rfl rfl ?_
  refine wregionT field_wide_add.o2 (.tp 0 (.tp 1 (.ef 2 (.tp 3 (.tp 4 (.tp 5 (.tp 6 (.tp 7 (.done))))))))) [] rfl rfl (by kernel_rfl) (by kernel_rfl) ?_
  refine k_move (v := .int .u64 a1) rfl s1_e15 ?_
  refine k_move (v := .int .u64 a2) rfl s2_e15 ?_
  obtain ⟨r3, qr3, h⟩ := bd_e h
  refine k_call [.int .u64 a1, .int .u64 a2] rfl (by kernel_rfl) (args2 rfl rfl) (math_bits_Mul64_ok a1 a2  _ (hp.toR (fun _ h => by cases h)) qr3) ?_
  rintro _ w' ⟨_, rfl, rfl, hpc⟩
  refine ⟨_, rfl, .inr (.of_below hpc.chg.to_below), ?_⟩; have hp := hp.below hpc.chg.to_below; clear hpc
  refine k_move (v := .tuple #[.int .u64 r3.1, .int .u64 r3.2]) rfl rfl ?_
  refine k_extract (v := .int .u64 r3.1) rfl rfl rfl ?_
  refine k_extract (v := .int .u64 r3.2) rfl rfl rfl ?_
  refine k_assign (v := .int .u64 r3.1) rfl rfl ?_
  refine k_assign (v := .int .u64 r3.2) rfl rfl ?_
  refine k_end ?_; intro e16 qe16
  have s3_e16 : e16 3 = .pointer (some ⟨g1, 0, none⟩) := (congrFun qe16 3).trans s3_e15
  have s6_e16 : e16 6 = .pointer (some ⟨g2, 0, none⟩) := (congrFun qe16 6).trans s6_e15
  obtain ⟨x4, qx4, h⟩ := lt_e h
  have s7_e16 : e16 7 = .int .u64 x4 := (congrFun qe16 7).trans (congrArg (Value.int .u64) qx4.symm)
  obtain ⟨x5, qx5, h⟩ := lt_e h
  have s8_e16 : e16 8 = .int .u64 x5 := (congrFun qe16 8).trans (congrArg (Value.int .u64) qx5.symm)
  clear qe16
  refine wseqP (p0 := [1, 1, 0]) (p1 := [1, 1, 1]) rfl rfl rfl ?_
  refine wregionT field_wide_add.o3 (.tp 0 (.tp 1 (.tk 2 (.tp 3 (.tp 4 (.tp 5 (.tp 6 (.tp 7 (.tp 8 (.done)))))))))) [] rfl rfl (by kernel_rfl) (by kernel_rfl) ?_
  refine k_move (v := .int .u64 x5) rfl s8_e16 ?_
  refine k_fieldAddr (n := 1) rfl (by kernel_rfl) s3_e16 ?_
  refine k_load (j := 1) (v := .int .u64 (a0.getD 1 0)) rfl (by kernel_rfl) rfl (hp.get (j := 0) rfl) rfl rfl (ints_get (Nat.lt_of_lt_of_eq (m := 2) (by decide) (la0).symm)) ?_
  obtain ⟨c6, h⟩ := chk_e h
  refine k_ext [.int .u64 x5, .int .u64 (a0.getD 1 0), .int .u64 0] rfl ext61 (args3 rfl rfl rfl) (fun w' => run_add64 x5 (a0.getD 1 0) 0 c6.1 c6.2.1 c6.2.2.1 c6.2.2.2 w') ?_
  refine k_move (v := .tuple #[.int .u64 ((x5 + (a0.getD 1 0) + 0) % 18446744073709551616), .int .u64 ((x5 + (a0.getD 1 0) + 0) / 18446744073709551616)]) rfl rfl ?_
  refine k_extract (v := .int .u64 ((x5 + (a0.getD 1 0) + 0) % 18446744073709551616)) rfl rfl rfl ?_
  refine k_extract (v := .int .u64 ((x5 + (a0.getD 1 0) + 0) / 18446744073709551616)) rfl rfl rfl ?_
  refine k_assign (v := .int .u64 ((x5 + (a0.getD 1 0) + 0) % 18446744073709551616)) rfl rfl ?_
  refine k_assign (v := .int .u64 ((x5 + (a0.getD 1 0) + 0) / 18446744073709551616)) rfl rfl ?_
  refine k_end ?_; intro e17 qe17
  have s3_e17 : e17 3 = .pointer (some ⟨g1, 0, none⟩) := (congrFun qe17 3).trans s3_e16
  have s6_e17 : e17 6 = .pointer (some ⟨g2, 0, none⟩) := (congrFun qe17 6).trans s6_e16
  have s7_e17 : e17 7 = .int .u64 x4 := (congrFun qe17 7).trans s7_e16
  obtain ⟨x7, qx7, h⟩ := lt_e h
  have s8_e17 : e17 8 = .int .u64 x7 := (congrFun qe17 8).trans (congrArg (Value.int .u64) qx7.symm)
  obtain ⟨x8, qx8, h⟩ := lt_e h
  have s9_e17 : e17 9 = .int .u64 x8 := (congrFun qe17 9).trans (congrArg (Value.int .u64) qx8.symm)
  clear qe17
  refine wseqP (p0 := [1, 1, 1, 0]) (p1 := [1, 1, 1, 1]) rfl rfl rfl ?_
  refine wregionT field_wide_add.o4 (.tp 0 (.tk 1 (.tp 2 (.tp 3 (.tp 4 (.tp 5 (.tp 6 (.tp 7 (.ef 8 (.done)))))))))) [8] rfl rfl (by kernel_rfl) (by kernel_rfl) ?_
  refine k_fieldAddr (n := 0) rfl (by kernel_rfl) s3_e17 ?_
  refine k_load (j := 0) (v := .int .u64 (a0.getD 0 0)) rfl (by kernel_rfl) rfl (hp.get (j := 0) rfl) rfl rfl (ints_get (Nat.lt_of_lt_of_eq (m := 2) (by decide) (la0).symm)) ?_
  refine k_move (v := .int .u64 x4) rfl s7_e17 ?_
  refine k_bin (X := .int .u64 (a0.getD 0 0)) (Y := .int .u64 x4) rfl rfl rfl rfl ?_
  refine k_move (v := .int .u64 x8) rfl s9_e17 ?_
  refine k_bin (X := .int .u64 (IntKind.u64.wrap ((a0.getD 0 0) + x4))) (Y := .int .u64 x8) rfl rfl rfl rfl ?_
  refine k_move (v := .int .u64 x7) rfl s8_e17 ?_
  refine k_build (v := .agg (ints .u64 [(IntKind.u64.wrap ((IntKind.u64.wrap ((a0.getD 0 0) + x4)) + x8)), x7]).toArray) rfl (fun _ => by kernel_rfl) ?_
  refine k_storeA (v := .agg (ints .u64 [(IntKind.u64.wrap ((IntKind.u64.wrap ((a0.getD 0 0) + x4)) + x8)), x7]).toArray) 1 0 (r := ⟨g2, 0, ints .u64 (List.replicate 2 (0 : Int))⟩) (ints .u64 [(IntKind.u64.wrap ((IntKind.u64.wrap ((a0.getD 0 0) + x4)) + x8)), x7]) (ints .u64 [(IntKind.u64.wrap ((IntKind.u64.wrap ((a0.getD 0 0) + x4)) + x8)), x7]) rfl (n := 2) (by kernel_rfl) s6_e17 rfl rfl ((ints_length _ _).trans (rfl : List.length ([(IntKind.u64.wrap ((IntKind.u64.wrap ((a0.getD 0 0) + x4)) + x8)), x7] : List Int) = 2)) (ints_one _ _) hp rfl rfl rfl (Nat.le_of_eq ((Nat.zero_add _).trans ((ints_length _ _).trans List.length_replicate).symm)) (setMany_all _ _ (((ints_length _ _).trans (rfl : List.length ([(IntKind.u64.wrap ((IntKind.u64.wrap ((a0.getD 0 0) + x4)) + x8)), x7] : List Int) = 2)).trans ((ints_length _ _).trans List.length_replicate).symm)) (by decide) ?_; intro w hp
  refine k_end ?_; intro e18 qe18
  have s6_e18 : e18 6 = .pointer (some ⟨g2, 0, none⟩) := (congrFun qe18 6).trans s6_e17
  clear qe18
  obtain ⟨x9, qx9, h⟩ := lt_e h
  have lx9 : x9.length = 2 := (congrArg List.length qx9).trans (rfl : List.length ([(IntKind.u64.wrap ((IntKind.u64.wrap ((a0.getD 0 0) + x4)) + x8)), x7] : List Int) = 2)
  have hp : Hp w0 [] w [⟨g1, 0, ints .u64 a0⟩, ⟨g2, 0, ints .u64 x9⟩] [] := by rw [qx9]; exact hp
  refine wret rfl ?_
  have hr : r = x9 := (Option.some.inj h).symm
  show RetP _ _ _ _ _
  rw [hr]
  exact ret_i [.agg (ints .u64 x9).toArray] (res_cell s6_e18 (loadVar_agg (by kernel_rfl) (by kernel_rfl) ((ints_length _ _).trans lx9) (hp.get (j := 1) rfl) rfl rfl rfl) res_nil) ⟨rfl, lx9, hp.none⟩
/-! 79 (postilion/field.wide).shifted -/
noncomputable def field_wide_shifted.o1 : Array Oper := opsC (at_ (fbody Try.f79) [0])
noncomputable def field_wide_shifted.o2 : Array Oper := opsC (at_ (fbody Try.f79) [1, 0])
theorem field_wide_shifted_ok (a0 : List Int) (la0 : a0.length = 2) (w0 : World) (hp : Hp w0 [] w0 [] []) {r : Int} (h : field_wide_shifted.f a0 = some r) :
    Calls Try.prog 79 [.agg (ints .u64 a0).toArray].toArray w0 fun x w' => ∃ v, x = .returned v ∧ v = .int .u64 r ∧ Hp w0 [] w' [] [] := by
  refine calls_inP Try.func79 rfl (Nat.le_of_ble_eq_true (by kernel_rfl)) (by kernel_rfl) ?_
  intro e0 qe0
  have s0_e0 : e0 0 = .agg (ints .u64 a0).toArray := congrFun qe0 0
  clear qe0
  unfold field_wide_shifted.f at h
  refine wseqP (p0 := [0]) (p1 := [1]) rfl rfl rfl ?_
  refine wregionT field_wide_shifted.o1 (.ef 0 (.tp 1 (.done))) [] rfl rfl (by kernel_rfl) (by kernel_rfl) ?_
  refine k_box (v := .agg (ints .u64 a0).toArray) (ints .u64 a0) rfl s0_e0 rfl hp ?_
  intro g1 w hbg1 hp
  refine k_assign (v := .int .u64 0) rfl rfl ?_
  refine k_end ?_; intro e19 qe19
  have s1_e19 : e19 1 = .pointer (some ⟨g1, 0, none⟩) := congrFun qe19 1
  clear qe19
  refine wseqP (p0 := [1, 0]) (p1 := [1, 1]) rfl rfl rfl ?_
  refine wregionT field_wide_shifted.o2 (.tp 0 (.tk 1 (.tp 2 (.tp 3 (.tk 4 (.tp 5 (.tp 6 (.tp 7 (.done))))))))) [] rfl rfl (by kernel_rfl) (by kernel_rfl) ?_
  refine k_fieldAddr (n := 0) rfl (by kernel_rfl) s1_e19 ?_
  refine k_load (j := 0) (v := .int .u64 (a0.getD 0 0)) rfl (by kernel_rfl) rfl (hp.get (j := 0) rfl) rfl rfl (ints_get (Nat.lt_of_lt_of_eq (m := 2) (by decide) (la0).symm)) ?_
  refine k_shl (a := (a0.getD 0 0)) (b := 13) rfl rfl rfl (by decide) ?_
  refine k_fieldAddr (n := 1) rfl (by kernel_rfl) s1_e19 ?_
  refine k_load (j := 1) (v := .int .u64 (a0.getD 1 0)) rfl (by kernel_rfl) rfl (hp.get (j := 0) rfl) rfl rfl (ints_get (Nat.lt_of_lt_of_eq (m := 2) (by decide) (la0).symm)) ?_
  refine k_shr (a := (a0.getD 1 0)) (b := 51) rfl rfl rfl (by decide) ?_
  refine k_bin (X := .int .u64 (IntKind.u64.wrap ((a0.getD 0 0) * 2 ^ 13))) (Y := .int .u64 (Int.fdiv (a0.getD 1 0) (2 ^ 51))) rfl rfl rfl rfl ?_
  refine k_assign (v := .int .u64 (bits .or .u64 (IntKind.u64.wrap ((a0.getD 0 0) * 2 ^ 13)) (Int.fdiv (a0.getD 1 0) (2 ^ 51)))) rfl rfl ?_
  refine k_end ?_; intro e20 qe20
  obtain ⟨x2, qx2, h⟩ := lt_e h
  have s2_e20 : e20 2 = .int .u64 x2 := (congrFun qe20 2).trans (congrArg (Value.int .u64) qx2.symm)
  clear qe20
  refine wret rfl ?_
  have hr : r = x2 := (Option.some.inj h).symm
  show RetP _ _ _ _ _
  rw [hr]
  exact ret_i [.int .u64 x2] (res_tmp s2_e20 res_nil) ⟨rfl, hp.none⟩
/-! 80 (postilion/field.Element).carried -/
noncomputable def field_Element_carried.o1 : Array Oper := opsC (at_ (fbody Try.f80) [0])
noncomputable def field_Element_carried.o2 : Array Oper := opsC (at_ (fbody Try.f80) [1, 0])
noncomputable def field_Element_carried.o3 : Array Oper := opsC (at_ (fbody Try.f80) [1, 1, 0])
theorem field_Element_carried_ok (a0 : List Int) (la0 : a0.length = 5) (w0 : World) (hp : Hp w0 [] w0 [] []) {r : List Int} (h : field_Element_carried.f a0 = some r) :
    Calls Try.prog 80 [.agg (ints .u64 a0).toArray].toArray w0 fun x w' => ∃ v, x = .returned v ∧ v = .agg (ints .u64 r).toArray ∧ r.length = 5 ∧ Hp w0 [] w' [] [] := by
  refine calls_inP Try.func80 rfl (Nat.le_of_ble_eq_true (by kernel_rfl)) (by kernel_rfl) ?_
  intro e0 qe0
  have s0_e0 : e0 0 = .agg (ints .u64 a0).toArray := congrFun qe0 0
  clear qe0
  unfold field_Element_carried.f at h
  refine wseqP (p0 := [0]) (p1 := [1]) rfl rfl rfl ?_
  refine wregionT field_Element_carried.o1 (.ef 0 (.ef 1 (.done))) [] rfl rfl (by kernel_rfl) (by kernel_rfl) ?_
  refine k_box (v := .agg (ints .u64 a0).toArray) (ints .u64 a0) rfl s0_e0 rfl hp ?_
  intro g1 w hbg1 hp
  refine k_alloc (ints .u64 (List.replicate 5 (0 : Int))) rfl (by kernel_rfl) hp ?_
  intro g2 w hbg2 hp
  refine k_end ?_; intro e21 qe21
  have s1_e21 : e21 1 = .pointer (some ⟨g1, 0, none⟩) := congrFun qe21 1
  have s2_e21 : e21 2 = .pointer (some ⟨g2, 0, none⟩) := congrFun qe21 2
  clear qe21
  refine wseqP (p0 := [1, 0]) (p1 := [1, 1]) rfl rfl rfl ?_
  refine wregionT field_Element_carried.o2 (.tp 0 (.tk 1 (.tp 2 (.tp 3 (.tk 4 (.tp 5 (.tp 6 (.tk 7 (.tp 8 (.tp 9 (.tk 10 (.tp 11 (.tp 12 (.tk 13 (.tp 14 (.tp 15 (.ef 16 (.ef 17 (.done))))))))))))))))))) [17] rfl rfl (by kernel_rfl) (by kernel_rfl) ?_
  refine k_indexA (n := 5) (s := 1) (j := 0) rfl Try.underlying40 (by kernel_rfl) s1_e21 rfl (by decide) ?_
  refine k_load (j := 0) (v := .int .u64 (a0.getD 0 0)) rfl (by kernel_rfl) rfl (hp.get (j := 0) rfl) rfl rfl (ints_get (Nat.lt_of_lt_of_eq (m := 5) (by decide) (la0).symm)) ?_
  refine k_shr (a := (a0.getD 0 0)) (b := 51) rfl rfl rfl (by decide) ?_
  refine k_indexA (n := 5) (s := 1) (j := 1) rfl Try.underlying40 (by kernel_rfl) s1_e21 rfl (by decide) ?_
  refine k_load (j := 1) (v := .int .u64 (a0.getD 1 0)) rfl (by kernel_rfl) rfl (hp.get (j := 0) rfl) rfl rfl (ints_get (Nat.lt_of_lt_of_eq (m := 5) (by decide) (la0).symm)) ?_
  refine k_shr (a := (a0.getD 1 0)) (b := 51) rfl rfl rfl (by decide) ?_
  refine k_indexA (n := 5) (s := 1) (j := 2) rfl Try.underlying40 (by kernel_rfl) s1_e21 rfl (by decide) ?_
  refine k_load (j := 2) (v := .int .u64 (a0.getD 2 0)) rfl (by kernel_rfl) rfl (hp.get (j := 0) rfl) rfl rfl (ints_get (Nat.lt_of_lt_of_eq (m := 5) (by decide) (la0).symm)) ?_
  refine k_shr (a := (a0.getD 2 0)) (b := 51) rfl rfl rfl (by decide) ?_
  refine k_indexA (n := 5) (s := 1) (j := 3) rfl Try.underlying40 (by kernel_rfl) s1_e21 rfl (by decide) ?_
  refine k_load (j := 3) (v := .int .u64 (a0.getD 3 0)) rfl (by kernel_rfl) rfl (hp.get (j := 0) rfl) rfl rfl (ints_get (Nat.lt_of_lt_of_eq (m := 5) (by decide) (la0).symm)) ?_
  refine k_shr (a := (a0.getD 3 0)) (b := 51) rfl rfl rfl (by decide) ?_
  refine k_indexA (n := 5) (s := 1) (j := 4) rfl Try.underlying40 (by kernel_rfl) s1_e21 rfl (by decide) ?_
  refine k_load (j := 4) (v := .int .u64 (a0.getD 4 0)) rfl (by kernel_rfl) rfl (hp.get (j := 0) rfl) rfl rfl (ints_get (Nat.lt_of_lt_of_eq (m := 5) (by decide) (la0).symm)) ?_
  refine k_shr (a := (a0.getD 4 0)) (b := 51) rfl rfl rfl (by decide) ?_
  refine k_build (v := .agg (ints .u64 [(Int.fdiv (a0.getD 0 0) (2 ^ 51)), (Int.fdiv (a0.getD 1 0) (2 ^ 51)), (Int.fdiv (a0.getD 2 0) (2 ^ 51)), (Int.fdiv (a0.getD 3 0) (2 ^ 51)), (Int.fdiv (a0.getD 4 0) (2 ^ 51))]).toArray) rfl (fun _ => by kernel_rfl) ?_
  refine k_alloc (ints .u64 (List.replicate 5 (0 : Int))) rfl (by kernel_rfl) hp ?_
  intro g3 w hbg3 hp
  refine k_storeA (v := .agg (ints .u64 [(Int.fdiv (a0.getD 0 0) (2 ^ 51)), (Int.fdiv (a0.getD 1 0) (2 ^ 51)), (Int.fdiv (a0.getD 2 0) (2 ^ 51)), (Int.fdiv (a0.getD 3 0) (2 ^ 51)), (Int.fdiv (a0.getD 4 0) (2 ^ 51))]).toArray) 2 0 (r := ⟨g3, 0, ints .u64 (List.replicate 5 (0 : Int))⟩) (ints .u64 [(Int.fdiv (a0.getD 0 0) (2 ^ 51)), (Int.fdiv (a0.getD 1 0) (2 ^ 51)), (Int.fdiv (a0.getD 2 0) (2 ^ 51)), (Int.fdiv (a0.getD 3 0) (2 ^ 51)), (Int.fdiv (a0.getD 4 0) (2 ^ 51))]) (ints .u64 [(Int.fdiv (a0.getD 0 0) (2 ^ 51)), (Int.fdiv (a0.getD 1 0) (2 ^ 51)), (Int.fdiv (a0.getD 2 0) (2 ^ 51)), (Int.fdiv (a0.getD 3 0) (2 ^ 51)), (Int.fdiv (a0.getD 4 0) (2 ^ 51))]) rfl (n := 5) (by kernel_rfl) rfl rfl rfl ((ints_length _ _).trans (rfl : List.length ([(Int.fdiv (a0.getD 0 0) (2 ^ 51)), (Int.fdiv (a0.getD 1 0) (2 ^ 51)), (Int.fdiv (a0.getD 2 0) (2 ^ 51)), (Int.fdiv (a0.getD 3 0) (2 ^ 51)), (Int.fdiv (a0.getD 4 0) (2 ^ 51))] : List Int) = 5)) (ints_one _ _) hp rfl rfl rfl (Nat.le_of_eq ((Nat.zero_add _).trans ((ints_length _ _).trans List.length_replicate).symm)) (setMany_all _ _ (((ints_length _ _).trans (rfl : List.length ([(Int.fdiv (a0.getD 0 0) (2 ^ 51)), (Int.fdiv (a0.getD 1 0) (2 ^ 51)), (Int.fdiv (a0.getD 2 0) (2 ^ 51)), (Int.fdiv (a0.getD 3 0) (2 ^ 51)), (Int.fdiv (a0.getD 4 0) (2 ^ 51))] : List Int) = 5)).trans ((ints_length _ _).trans List.length_replicate).symm)) (by decide) ?_; intro w hp
  refine k_end ?_; intro e22 qe22
  have s1_e22 : e22 1 = .pointer (some ⟨g1, 0, none⟩) := (congrFun qe22 1).trans s1_e21
  have s2_e22 : e22 2 = .pointer (some ⟨g2, 0, none⟩) := (congrFun qe22 2).trans s2_e21
  have s3_e22 : e22 3 = .pointer (some ⟨g3, 0, none⟩) := congrFun qe22 3
  clear qe22
  obtain ⟨x4, qx4, h⟩ := lt_e h
  have lx4 : x4.length = 5 := (congrArg List.length qx4).trans (rfl : List.length ([(Int.fdiv (a0.getD 0 0) (2 ^ 51)), (Int.fdiv (a0.getD 1 0) (2 ^ 51)), (Int.fdiv (a0.getD 2 0) (2 ^ 51)), (Int.fdiv (a0.getD 3 0) (2 ^ 51)), (Int.fdiv (a0.getD 4 0) (2 ^ 51))] : List Int) = 5)
  have hp : Hp w0 [] w [⟨g1, 0, ints .u64 a0⟩, ⟨g2, 0, ints .u64 (List.replicate 5 (0 : Int))⟩, ⟨g3, 0, ints .u64 x4⟩] [] := by rw [qx4]; exact hp
  refine wseqP (p0 := [1, 1, 0]) (p1 := [1, 1, 1]) rfl rfl rfl ?_
  refine wregionT field_Element_carried.o3 (.tp 0 (.tk 1 (.tp 2 (.tp 3 (.tk 4 (.tp 5 (.tp 6 (.tp 7 (.tk 8 (.tp 9 (.tp 10 (.tk 11 (.tp 12 (.tp 13 (.tk 14 (.tp 15 (.tp 16 (.tk 17 (.tp 18 (.tp 19 (.tk 20 (.tp 21 (.tp 22 (.tk 23 (.tp 24 (.tp 25 (.tk 26 (.tp 27 (.tp 28 (.tk 29 (.tp 30 (.tp 31 (.ef 32 (.done)))))))))))))))))))))))))))))))))) [32] rfl rfl (by kernel_rfl) (by kernel_rfl) ?_
  refine k_indexA (n := 5) (s := 1) (j := 0) rfl Try.underlying40 (by kernel_rfl) s1_e22 rfl (by decide) ?_
  refine k_load (j := 0) (v := .int .u64 (a0.getD 0 0)) rfl (by kernel_rfl) rfl (hp.get (j := 0) rfl) rfl rfl (ints_get (Nat.lt_of_lt_of_eq (m := 5) (by decide) (la0).symm)) ?_
  refine k_bin (X := .int .u64 (a0.getD 0 0)) (Y := .int .u64 2251799813685247) rfl rfl rfl rfl ?_
  refine k_indexA (n := 5) (s := 1) (j := 4) rfl Try.underlying39 (by kernel_rfl) s3_e22 rfl (by decide) ?_
  refine k_load (j := 4) (v := .int .u64 (x4.getD 4 0)) rfl (by kernel_rfl) rfl (hp.get (j := 2) rfl) rfl rfl (ints_get (Nat.lt_of_lt_of_eq (m := 5) (by decide) (lx4).symm)) ?_
  refine k_bin (X := .int .u64 19) (Y := .int .u64 (x4.getD 4 0)) rfl rfl rfl rfl ?_
  refine k_bin (X := .int .u64 (bits .and .u64 (a0.getD 0 0) 2251799813685247)) (Y := .int .u64 (IntKind.u64.wrap (19 * (x4.getD 4 0)))) rfl rfl rfl rfl ?_
  refine k_indexA (n := 5) (s := 1) (j := 1) rfl Try.underlying40 (by kernel_rfl) s1_e22 rfl (by decide) ?_
  refine k_load (j := 1) (v := .int .u64 (a0.getD 1 0)) rfl (by kernel_rfl) rfl (hp.get (j := 0) rfl) rfl rfl (ints_get (Nat.lt_of_lt_of_eq (m := 5) (by decide) (la0).symm)) ?_
  refine k_bin (X := .int .u64 (a0.getD 1 0)) (Y := .int .u64 2251799813685247) rfl rfl rfl rfl ?_
  refine k_indexA (n := 5) (s := 1) (j := 0) rfl Try.underlying39 (by kernel_rfl) s3_e22 rfl (by decide) ?_
  refine k_load (j := 0) (v := .int .u64 (x4.getD 0 0)) rfl (by kernel_rfl) rfl (hp.get (j := 2) rfl) rfl rfl (ints_get (Nat.lt_of_lt_of_eq (m := 5) (by decide) (lx4).symm)) ?_
  refine k_bin (X := .int .u64 (bits .and .u64 (a0.getD 1 0) 2251799813685247)) (Y := .int .u64 (x4.getD 0 0)) rfl rfl rfl rfl ?_
  refine k_indexA (n := 5) (s := 1) (j := 2) rfl Try.underlying40 (by kernel_rfl) s1_e22 rfl (by decide) ?_
  refine k_load (j := 2) (v := .int .u64 (a0.getD 2 0)) rfl (by kernel_rfl) rfl (hp.get (j := 0) rfl) rfl rfl (ints_get (Nat.lt_of_lt_of_eq (m := 5) (by decide) (la0).symm)) ?_
  refine k_bin (X := .int .u64 (a0.getD 2 0)) (Y := .int .u64 2251799813685247) rfl rfl rfl rfl ?_
  refine k_indexA (n := 5) (s := 1) (j := 1) rfl Try.underlying39 (by kernel_rfl) s3_e22 rfl (by decide) ?_
  refine k_load (j := 1) (v := .int .u64 (x4.getD 1 0)) rfl (by kernel_rfl) rfl (hp.get (j := 2) rfl) rfl rfl (ints_get (Nat.lt_of_lt_of_eq (m := 5) (by decide) (lx4).symm)) ?_
  refine k_bin (X := .int .u64 (bits .and .u64 (a0.getD 2 0) 2251799813685247)) (Y := .int .u64 (x4.getD 1 0)) rfl rfl rfl rfl ?_
  refine k_indexA (n := 5) (s := 1) (j := 3) rfl Try.underlying40 (by kernel_rfl) s1_e22 rfl (by decide) ?_
  refine k_load (j := 3) (v := .int .u64 (a0.getD 3 0)) rfl (by kernel_rfl) rfl (hp.get (j := 0) rfl) rfl rfl (ints_get (Nat.lt_of_lt_of_eq (m := 5) (by decide) (la0).symm)) ?_
  refine k_bin (X := .int .u64 (a0.getD 3 0)) (Y := .int .u64 2251799813685247) rfl rfl rfl rfl ?_
  refine k_indexA (n := 5) (s := 1) (j := 2) rfl Try.underlying39 (by kernel_rfl) s3_e22 rfl (by decide) ?_
  refine k_load (j := 2) (v := .int .u64 (x4.getD 2 0)) rfl (by kernel_rfl) rfl (hp.get (j := 2) rfl) rfl rfl (ints_get (Nat.lt_of_lt_of_eq (m := 5) (by decide) (lx4).symm)) ?_
  refine k_bin (X := .int .u64 (bits .and .u64 (a0.getD 3 0) 2251799813685247)) (Y := .int .u64 (x4.getD 2 0)) rfl rfl rfl rfl ?_
  refine k_indexA (n := 5) (s := 1) (j := 4) rfl Try.underlying40 (by kernel_rfl) s1_e22 rfl (by decide) ?_
  refine k_load (j := 4) (v := .int .u64 (a0.getD 4 0)) rfl (by kernel_rfl) rfl (hp.get (j := 0) rfl) rfl rfl (ints_get (Nat.lt_of_lt_of_eq (m := 5) (by decide) (la0).symm)) ?_
  refine k_bin (X := .int .u64 (a0.getD 4 0)) (Y := .int .u64 2251799813685247) rfl rfl rfl rfl ?_
  refine k_indexA (n := 5) (s := 1) (j := 3) rfl Try.underlying39 (by kernel_rfl) s3_e22 rfl (by decide) ?_
  refine k_load (j := 3) (v := .int .u64 (x4.getD 3 0)) rfl (by kernel_rfl) rfl (hp.get (j := 2) rfl) rfl rfl (ints_get (Nat.lt_of_lt_of_eq (m := 5) (by decide) (lx4).symm)) ?_
  refine k_bin (X := .int .u64 (bits .and .u64 (a0.getD 4 0) 2251799813685247)) (Y := .int .u64 (x4.getD 3 0)) rfl rfl rfl rfl ?_
  refine k_build (v := .agg (ints .u64 [(IntKind.u64.wrap ((bits .and .u64 (a0.getD 0 0) 2251799813685247) + (IntKind.u64.wrap (19 * (x4.getD 4 0))))), (IntKind.u64.wrap ((bits .and .u64 (a0.getD 1 0) 2251799813685247) + (x4.getD 0 0))), (IntKind.u64.wrap ((bits .and .u64 (a0.getD 2 0) 2251799813685247) + (x4.getD 1 0))), (IntKind.u64.wrap ((bits .and .u64 (a0.getD 3 0) 2251799813685247) + (x4.getD 2 0))), (IntKind.u64.wrap ((bits .and .u64 (a0.getD 4 0) 2251799813685247) + (x4.getD 3 0)))]).toArray) rfl (fun _ => by kernel_rfl) ?_
  refine k_storeA (v := .agg (ints .u64 [(IntKind.u64.wrap ((bits .and .u64 (a0.getD 0 0) 2251799813685247) + (IntKind.u64.wrap (19 * (x4.getD 4 0))))), (IntKind.u64.wrap ((bits .and .u64 (a0.getD 1 0) 2251799813685247) + (x4.getD 0 0))), (IntKind.u64.wrap ((bits .and .u64 (a0.getD 2 0) 2251799813685247) + (x4.getD 1 0))), (IntKind.u64.wrap ((bits .and .u64 (a0.getD 3 0) 2251799813685247) + (x4.getD 2 0))), (IntKind.u64.wrap ((bits .and .u64 (a0.getD 4 0) 2251799813685247) + (x4.getD 3 0)))]).toArray) 1 0 (r := ⟨g2, 0, ints .u64 (List.replicate 5 (0 : Int))⟩) (ints .u64 [(IntKind.u64.wrap ((bits .and .u64 (a0.getD 0 0) 2251799813685247) + (IntKind.u64.wrap (19 * (x4.getD 4 0))))), (IntKind.u64.wrap ((bits .and .u64 (a0.getD 1 0) 2251799813685247) + (x4.getD 0 0))), (IntKind.u64.wrap ((bits .and .u64 (a0.getD 2 0) 2251799813685247) + (x4.getD 1 0))), (IntKind.u64.wrap ((bits .and .u64 (a0.getD 3 0) 2251799813685247) + (x4.getD 2 0))), (IntKind.u64.wrap ((bits .and .u64 (a0.getD 4 0) 2251799813685247) + (x4.getD 3 0)))]) (ints .u64 [(IntKind.u64.wrap ((bits .and .u64 (a0.getD 0 0) 2251799813685247) + (IntKind.u64.wrap (19 * (x4.getD 4 0))))), (IntKind.u64.wrap ((bits .and .u64 (a0.getD 1 0) 2251799813685247) + (x4.getD 0 0))), (IntKind.u64.wrap ((bits .and .u64 (a0.getD 2 0) 2251799813685247) + (x4.getD 1 0))), (IntKind.u64.wrap ((bits .and .u64 (a0.getD 3 0) 2251799813685247) + (x4.getD 2 0))), (IntKind.u64.wrap ((bits .and .u64 (a0.getD 4 0) 2251799813685247) + (x4.getD 3 0)))]) rfl (n := 5) (by kernel_rfl) s2_e22 rfl rfl ((ints_length _ _).trans (rfl : List.length ([(IntKind.u64.wrap ((bits .and .u64 (a0.getD 0 0) 2251799813685247) + (IntKind.u64.wrap (19 * (x4.getD 4 0))))), (IntKind.u64.wrap ((bits .and .u64 (a0.getD 1 0) 2251799813685247) + (x4.getD 0 0))), (IntKind.u64.wrap ((bits .and .u64 (a0.getD 2 0) 2251799813685247) + (x4.getD 1 0))), (IntKind.u64.wrap ((bits .and .u64 (a0.getD 3 0) 2251799813685247) + (x4.getD 2 0))), (IntKind.u64.wrap ((bits .and .u64 (a0.getD 4 0) 2251799813685247) + (x4.getD 3 0)))] : List Int) = 5)) (ints_one _ _) hp rfl rfl rfl (Nat.le_of_eq ((Nat.zero_add _).trans ((ints_length _ _).trans List.length_replicate).symm)) (setMany_all _ _ (((ints_length _ _).trans (rfl : List.length ([(IntKind.u64.wrap ((bits .and .u64 (a0.getD 0 0) 2251799813685247) + (IntKind.u64.wrap (19 * (x4.getD 4 0))))), (IntKind.u64.wrap ((bits .and .u64 (a0.getD 1 0) 2251799813685247) + (x4.getD 0 0))), (IntKind.u64.wrap ((bits .and .u64 (a0.getD 2 0) 2251799813685247) + (x4.getD 1 0))), (IntKind.u64.wrap ((bits .and .u64 (a0.getD 3 0) 2251799813685247) + (x4.getD 2 0))), (IntKind.u64.wrap ((bits .and .u64 (a0.getD 4 0) 2251799813685247) + (x4.getD 3 0)))] : List Int) = 5)).trans ((ints_length _ _).trans List.length_replicate).symm)) (by decide) ?_; intro w hp
  refine k_end ?_; intro e23 qe23
  have s2_e23 : e23 2 = .pointer (some ⟨g2, 0, none⟩) := (congrFun qe23 2).trans s2_e22
  clear qe23
  obtain ⟨x5, qx5, h⟩ := lt_e h
  have lx5 : x5.length = 5 := (congrArg List.length qx5).trans (rfl : List.length ([(IntKind.u64.wrap ((bits .and .u64 (a0.getD 0 0) 2251799813685247) + (IntKind.u64.wrap (19 * (x4.getD 4 0))))), (IntKind.u64.wrap ((bits .and .u64 (a0.getD 1 0) 2251799813685247) + (x4.getD 0 0))), (IntKind.u64.wrap ((bits .and .u64 (a0.getD 2 0) 2251799813685247) + (x4.getD 1 0))), (IntKind.u64.wrap ((bits .and .u64 (a0.getD 3 0) 2251799813685247) + (x4.getD 2 0))), (IntKind.u64.wrap ((bits .and .u64 (a0.getD 4 0) 2251799813685247) + (x4.getD 3 0)))] : List Int) = 5)
  have hp : Hp w0 [] w [⟨g1, 0, ints .u64 a0⟩, ⟨g2, 0, ints .u64 x5⟩, ⟨g3, 0, ints .u64 x4⟩] [] := by rw [qx5]; exact hp
  refine wret rfl ?_
  have hr : r = x5 := (Option.some.inj h).symm
  show RetP _ _ _ _ _
  rw [hr]
  exact ret_i [.agg (ints .u64 x5).toArray] (res_cell s2_e23 (loadVar_agg (by kernel_rfl) (by kernel_rfl) ((ints_length _ _).trans lx5) (hp.get (j := 1) rfl) rfl rfl rfl) res_nil) ⟨rfl, lx5, hp.none⟩
/-! 48 (postilion/field.Element).Times -/
noncomputable def field_Element_Times.o1 : Array Oper := opsC (at_ (fbody Try.f48) [0])
noncomputable def field_Element_Times.o2 : Array Oper := opsC (at_ (fbody Try.f48) [1, 0])
noncomputable def field_Element_Times.o3 : Array Oper := opsC (at_ (fbody Try.f48) [1, 1, 0])
noncomputable def field_Element_Times.o4 : Array Oper := opsC (at_ (fbody Try.f48) [1, 1, 1, 0])
set_option maxHeartbeats 4000000 in
theorem field_Element_Times_ok (a0 : List Int) (a1 : List Int) (la0 : a0.length = 5) (la1 : a1.length = 5) (w0 : World) (hp : Hp w0 [] w0 [] []) {r : List Int} (h : field_Element_Times.f a0 a1 = some r) :
    Calls Try.prog 48 [.agg (ints .u64 a0).toArray, .agg (ints .u64 a1).toArray].toArray w0 fun x w' => ∃ v, x = .returned v ∧ v = .agg (ints .u64 r).toArray ∧ r.length = 5 ∧ Hp w0 [] w' [] [] := by
  refine calls_inP Try.func48 rfl (Nat.le_of_ble_eq_true (by kernel_rfl)) (by kernel_rfl) ?_
  intro e0 qe0
  have s0_e0 : e0 0 = .agg (ints .u64 a0).toArray := congrFun qe0 0
  have s1_e0 : e0 1 = .agg (ints .u64 a1).toArray := congrFun qe0 1
  clear qe0
  unfold field_Element_Times.f at h
  refine wseqP (p0 := [0]) (p1 := [1]) rfl rfl rfl ?_
  refine wregionT field_Element_Times.o1 (.ef 0 (.ef 1 (.ef 2 (.done)))) [] rfl rfl (by kernel_rfl) (by kernel_rfl) ?_
  refine k_box (v := .agg (ints .u64 a0).toArray) (ints .u64 a0) rfl s0_e0 rfl hp ?_
  intro g1 w hbg1 hp
  refine k_box (v := .agg (ints .u64 a1).toArray) (ints .u64 a1) rfl s1_e0 rfl hp ?_
  intro g2 w hbg2 hp
  refine k_alloc (ints .u64 (List.replicate 5 (0 : Int))) rfl (by kernel_rfl) hp ?_
  intro g3 w hbg3 hp
  refine k_end ?_; intro e24 qe24
  have s2_e24 : e24 2 = .pointer (some ⟨g1, 0, none⟩) := congrFun qe24 2
  have s3_e24 : e24 3 = .pointer (some ⟨g2, 0, none⟩) := congrFun qe24 3
  have s4_e24 : e24 4 = .pointer (some ⟨g3, 0, none⟩) := congrFun qe24 4
  clear qe24
  refine wseqP (p0 := [1, 0]) (p1 := [1, 1]) rfl rfl rfl ?_
  refine wregionT field_Element_Times.o2 (.tp 0 (.tk 1 (.tp 2 (.tp 3 (.tk 4 (.tp 5 (.tp 6 (.tk 7 (.tp 8 (.tp 9 (.tk 10 (.tp 11 (.tp 12 (.ef 13 (.ef 14 (.done)))))))))))))))) [14] rfl rfl (by kernel_rfl) (by kernel_rfl) ?_
  refine k_indexA (n := 5) (s := 1) (j := 1) rfl Try.underlying40 (by kernel_rfl) s3_e24 rfl (by decide) ?_
  refine k_load (j := 1) (v := .int .u64 (a1.getD 1 0)) rfl (by kernel_rfl) rfl (hp.get (j := 1) rfl) rfl rfl (ints_get (Nat.lt_of_lt_of_eq (m := 5) (by decide) (la1).symm)) ?_
  refine k_bin (X := .int .u64 19) (Y := .int .u64 (a1.getD 1 0)) rfl rfl rfl rfl ?_
  refine k_indexA (n := 5) (s := 1) (j := 2) rfl Try.underlying40 (by kernel_rfl) s3_e24 rfl (by decide) ?_
  refine k_load (j := 2) (v := .int .u64 (a1.getD 2 0)) rfl (by kernel_rfl) rfl (hp.get (j := 1) rfl) rfl rfl (ints_get (Nat.lt_of_lt_of_eq (m := 5) (by decide) (la1).symm)) ?_
  refine k_bin (X := .int .u64 19) (Y := .int .u64 (a1.getD 2 0)) rfl rfl rfl rfl ?_
  refine k_indexA (n := 5) (s := 1) (j := 3) rfl Try.underlying40 (by kernel_rfl) s3_e24 rfl (by decide) ?_
  refine k_load (j := 3) (v := .int .u64 (a1.getD 3 0)) rfl (by kernel_rfl) rfl (hp.get (j := 1) rfl) rfl rfl (ints_get (Nat.lt_of_lt_of_eq (m := 5) (by decide) (la1).symm)) ?_
  refine k_bin (X := .int .u64 19) (Y := .int .u64 (a1.getD 3 0)) rfl rfl rfl rfl ?_
  refine k_indexA (n := 5) (s := 1) (j := 4) rfl Try.underlying40 (by kernel_rfl) s3_e24 rfl (by decide) ?_
  refine k_load (j := 4) (v := .int .u64 (a1.getD 4 0)) rfl (by kernel_rfl) rfl (hp.get (j := 1) rfl) rfl rfl (ints_get (Nat.lt_of_lt_of_eq (m := 5) (by decide) (la1).symm)) ?_
  refine k_bin (X := .int .u64 19) (Y := .int .u64 (a1.getD 4 0)) rfl rfl rfl rfl ?_
  refine k_build (v := .agg (ints .u64 [0, (IntKind.u64.wrap (19 * (a1.getD 1 0))), (IntKind.u64.wrap (19 * (a1.getD 2 0))), (IntKind.u64.wrap (19 * (a1.getD 3 0))), (IntKind.u64.wrap (19 * (a1.getD 4 0)))]).toArray) rfl (fun _ => by kernel_rfl) ?_
  refine k_alloc (ints .u64 (List.replicate 5 (0 : Int))) rfl (by kernel_rfl) hp ?_
  intro g4 w hbg4 hp
  refine k_storeA (v := .agg (ints .u64 [0, (IntKind.u64.wrap (19 * (a1.getD 1 0))), (IntKind.u64.wrap (19 * (a1.getD 2 0))), (IntKind.u64.wrap (19 * (a1.getD 3 0))), (IntKind.u64.wrap (19 * (a1.getD 4 0)))]).toArray) 3 0 (r := ⟨g4, 0, ints .u64 (List.replicate 5 (0 : Int))⟩) (ints .u64 [0, (IntKind.u64.wrap (19 * (a1.getD 1 0))), (IntKind.u64.wrap (19 * (a1.getD 2 0))), (IntKind.u64.wrap (19 * (a1.getD 3 0))), (IntKind.u64.wrap (19 * (a1.getD 4 0)))]) (ints .u64 [0, (IntKind.u64.wrap (19 * (a1.getD 1 0))), (IntKind.u64.wrap (19 * (a1.getD 2 0))), (IntKind.u64.wrap (19 * (a1.getD 3 0))), (IntKind.u64.wrap (19 * (a1.getD 4 0)))]) rfl (n := 5) (by kernel_rfl) rfl rfl rfl ((ints_length _ _).trans (rfl : List.length ([0, (IntKind.u64.wrap (19 * (a1.getD 1 0))), (IntKind.u64.wrap (19 * (a1.getD 2 0))), (IntKind.u64.wrap (19 * (a1.getD 3 0))), (IntKind.u64.wrap (19 * (a1.getD 4 0)))] : List Int) = 5)) (ints_one _ _) hp rfl rfl rfl (Nat.le_of_eq ((Nat.zero_add _).trans ((ints_length _ _).trans List.length_replicate).symm)) (setMany_all _ _ (((ints_length _ _).trans (rfl : List.length ([0, (IntKind.u64.wrap (19 * (a1.getD 1 0))), (IntKind.u64.wrap (19 * (a1.getD 2 0))), (IntKind.u64.wrap (19 * (a1.getD 3 0))), (IntKind.u64.wrap (19 * (a1.getD 4 0)))] : List Int) = 5)).trans ((ints_length _ _).trans List.length_replicate).symm)) (by decide) ?_; intro w hp
  refine k_end ?_; intro e25 qe25
  have s2_e25 : e25 2 = .pointer (some ⟨g1, 0, none⟩) := (congrFun qe25 2).trans s2_e24
  have s3_e25 : e25 3 = .pointer (some ⟨g2, 0, none⟩) := (congrFun qe25 3).trans s3_e24
  have s4_e25 : e25 4 = .pointer (some ⟨g3, 0, none⟩) := (congrFun qe25 4).trans s4_e24
  have s5_e25 : e25 5 = .pointer (some ⟨g4, 0, none⟩) := congrFun qe25 5
  clear qe25
  obtain ⟨x5, qx5, h⟩ := lt_e h
  have lx5 : x5.length = 5 := (congrArg List.length qx5).trans (rfl : List.length ([0, (IntKind.u64.wrap (19 * (a1.getD 1 0))), (IntKind.u64.wrap (19 * (a1.getD 2 0))), (IntKind.u64.wrap (19 * (a1.getD 3 0))), (IntKind.u64.wrap (19 * (a1.getD 4 0)))] : List Int) = 5)
  have hp : Hp w0 [] w [⟨g1, 0, ints .u64 a0⟩, ⟨g2, 0, ints .u64 a1⟩, ⟨g3, 0, ints .u64 (List.replicate 5 (0 : Int))⟩, ⟨g4, 0, ints .u64 x5⟩] [] := by rw [qx5]; exact hp
  refine wseqP (p0 := [1, 1, 0]) (p1 := [1, 1, 1]) rfl rfl rfl ?_
  obtain ⟨r6, qr6, h⟩ := bd_e h
  obtain ⟨r7, qr7, h⟩ := bd_e h
  obtain ⟨r8, qr8, h⟩ := bd_e h
  obtain ⟨r9, qr9, h⟩ := bd_e h
  obtain ⟨r10, qr10, h⟩ := bd_e h
  obtain ⟨r11, qr11, h⟩ := bd_e h
  obtain ⟨r12, qr12, h⟩ := bd_e h
  obtain ⟨r13, qr13, h⟩ := bd_e h
  obtain ⟨r14, qr14, h⟩ := bd_e h
  obtain ⟨r15, qr15, h⟩ := bd_e h
  obtain ⟨r16, qr16, h⟩ := bd_e h
  obtain ⟨r17, qr17, h⟩ := bd_e h
  obtain ⟨r18, qr18, h⟩ := bd_e h
  obtain ⟨r19, qr19, h⟩ := bd_e h
  obtain ⟨r20, qr20, h⟩ := bd_e h
  obtain ⟨r21, qr21, h⟩ := bd_e h
  obtain ⟨r22, qr22, h⟩ := bd_e h
  obtain ⟨r23, qr23, h⟩ := bd_e h
  obtain ⟨r24, qr24, h⟩ := bd_e h
  obtain ⟨r25, qr25, h⟩ := bd_e h
  obtain ⟨r26, qr26, h⟩ := bd_e h
  obtain ⟨r27, qr27, h⟩ := bd_e h
  obtain ⟨r28, qr28, h⟩ := bd_e h
  obtain ⟨r29, qr29, h⟩ := bd_e h
  obtain ⟨r30, qr30, h⟩ := bd_e h
  refine wcut (fun e26 w2 => ∃ g31 : Nat, (((r10.length = 2 ∧ r15.length = 2) ∧ (r20.length = 2 ∧ r25.length = 2)) ∧ ((r30.length = 2 ∧ e26 4 = .pointer (some ⟨g3, 0, none⟩)) ∧ e26 6 = .pointer (some ⟨g31, 0, none⟩))) ∧ Hp w0 [] w2 [⟨g1, 0, ints .u64 a0⟩, ⟨g2, 0, ints .u64 a1⟩, ⟨g3, 0, ints .u64 (List.replicate 5 (0 : Int))⟩, ⟨g4, 0, ints .u64 x5⟩, ⟨g31, 0, ints .u64 (r10 ++ r15 ++ r20 ++ r25 ++ r30)⟩] []) ?_ ?_
  rotate_left
  · refine wregionM field_Element_Times.o3 (.tp 0 (.tp 1 (.tk 2 (.tp 3 (.tk 4 (.tp 6 (.tk 7 (.tp 8 (.tk 9 (.tp 11 (.tk 12 (.tp 13 (.tk 14 (.tp 16 (.tk 17 (.tp 18 (.tk 19 (.tp 21 (.tk 22 (.tp 23 (.tk 24 (.tp 26 (.tp 27 (.tk 28 (.tp 29 (.tk 30 (.tp 32 (.tk 33 (.tp 34 (.tk 35 (.tp 37 (.tk 38 (.tp 39 (.tk 40 (.tp 42 (.tk 43 (.tp 44 (.tk 45 (.tp 47 (.tk 48 (.tp 49 (.tk 50 (.tp 52 (.tp 53 (.tk 54 (.tp 55 (.tk 56 (.tp 58 (.tk 59 (.tp 60 (.tk 61 (.tp 63 (.tk 64 (.tp 65 (.tk 66 (.tp 68 (.tk 69 (.tp 70 (.tk 71 (.tp 73 (.tk 74 (.tp 75 (.tk 76 (.tp 78 (.tp 79 (.tk 80 (.tp 81 (.tk 82 (.tp 84 (.tk 85 (.tp 86 (.tk 87 (.tp 89 (.tk 90 (.tp 91 (.tk 92 (.tp 94 (.tk 95 (.tp 96 (.tk 97 (.tp 99 (.tk 100 (.tp 101 (.tk 102 (.tp 104 (.tp 105 (.tk 106 (.tp 107 (.tk 108 (.tp 110 (.tk 111 (.tp 112 (.tk 113 (.tp 115 (.tk 116 (.tp 117 (.tk 118 (.tp 120 (.tk 121 (.tp 122 (.tk 123 (.tp 125 (.tk 126 (.tp 127 (.tk 128 (.rest 658611043218544074255888830489481411551 28)))))))))))))))))))))))))))))))))))))))))))))))))))))))))))))))))))))))))))))))))))))))))))))))))))))))))) [132] [(0, 0, 10889035741470030830827987437816582766591), (0, 0, 10889035741470030830827987437816582766591), (2, 2, 0), (0, 0, 10889035741470030830827987437816582766591), (8, 8, 0), (21, 10889035741470030830827987437816582766591, 10889035741470030830827987437816582766591), (0, 0, 10889035741470030830827987437816582766591), (64, 64, 0), (0, 0, 10889035741470030830827987437816582766591), (256, 256, 0), (672, 10889035741470030830827987437816582766591, 10889035741470030830827987437816582766591), (0, 0, 10889035741470030830827987437816582766591), (2048, 2048, 0), (0, 0, 10889035741470030830827987437816582766591), (8192, 8192, 0), (21504, 10889035741470030830827987437816582766591, 10889035741470030830827987437816582766591), (0, 0, 10889035741470030830827987437816582766591), (65536, 65536, 0), (0, 0, 10889035741470030830827987437816582766591), (262144, 262144, 0), (688128, 10889035741470030830827987437816582766591, 10889035741470030830827987437816582766591), (0, 0, 10889035741470030830827987437816582766591), (2097152, 2097152, 0), (0, 0, 10889035741470030830827987437816582766591), (8388608, 8388608, 0), (22020096, 10889035741470030830827987437816582766591, 10889035741470030830827987437816582766591), (0, 0, 10889035741470030830827987437816582766591), (0, 0, 10889035741470030830827987437816582766591), (134217728, 134217728, 0), (0, 0, 10889035741470030830827987437816582766591), (536870912, 536870912, 0), (1442840576, 10889035741470030830827987437816582766591, 10889035741470030830827987437816582766591), (0, 0, 10889035741470030830827987437816582766591), (4294967296, 4294967296, 0), (0, 0, 10889035741470030830827987437816582766591), (17179869184, 17179869184, 0), (45097156608, 10889035741470030830827987437816582766591, 10889035741470030830827987437816582766591), (0, 0, 10889035741470030830827987437816582766591), (137438953472, 137438953472, 0), (0, 0, 10889035741470030830827987437816582766591), (549755813888, 549755813888, 0), (1443109011456, 10889035741470030830827987437816582766591, 10889035741470030830827987437816582766591), (0, 0, 10889035741470030830827987437816582766591), (4398046511104, 4398046511104, 0), (0, 0, 10889035741470030830827987437816582766591), (17592186044416, 17592186044416, 0), (46179488366592, 10889035741470030830827987437816582766591, 10889035741470030830827987437816582766591), (0, 0, 10889035741470030830827987437816582766591), (140737488355328, 140737488355328, 0), (0, 0, 10889035741470030830827987437816582766591), (562949953421312, 562949953421312, 0), (1477743627730944, 10889035741470030830827987437816582766591, 10889035741470030830827987437816582766591), (0, 0, 10889035741470030830827987437816582766591), (0, 0, 10889035741470030830827987437816582766591), (9007199254740992, 9007199254740992, 0), (0, 0, 10889035741470030830827987437816582766591), (36028797018963968, 36028797018963968, 0), (96827391988465664, 10889035741470030830827987437816582766591, 10889035741470030830827987437816582766591), (0, 0, 10889035741470030830827987437816582766591), (288230376151711744, 288230376151711744, 0), (0, 0, 10889035741470030830827987437816582766591), (1152921504606846976, 1152921504606846976, 0), (3026418949592973312, 10889035741470030830827987437816582766591, 10889035741470030830827987437816582766591), (0, 0, 10889035741470030830827987437816582766591), (9223372036854775808, 9223372036854775808, 0), (0, 0, 10889035741470030830827987437816582766591), (36893488147419103232, 36893488147419103232, 0), (96845406386975145984, 10889035741470030830827987437816582766591, 10889035741470030830827987437816582766591), (0, 0, 10889035741470030830827987437816582766591), (295147905179352825856, 295147905179352825856, 0), (0, 0, 10889035741470030830827987437816582766591), (1180591620717411303424, 1180591620717411303424, 0), (3099053004383204671488, 10889035741470030830827987437816582766591, 10889035741470030830827987437816582766591), (0, 0, 10889035741470030830827987437816582766591), (9444732965739290427392, 9444732965739290427392, 0), (0, 0, 10889035741470030830827987437816582766591), (37778931862957161709568, 37778931862957161709568, 0), (99169696140262549487616, 10889035741470030830827987437816582766591, 10889035741470030830827987437816582766591), (0, 0, 10889035741470030830827987437816582766591), (0, 0, 10889035741470030830827987437816582766591), (604462909807314587353088, 604462909807314587353088, 0), (0, 0, 10889035741470030830827987437816582766591), (2417851639229258349412352, 2417851639229258349412352, 0), (6497976280428631814045696, 10889035741470030830827987437816582766591, 10889035741470030830827987437816582766591), (0, 0, 10889035741470030830827987437816582766591), (19342813113834066795298816, 19342813113834066795298816, 0), (0, 0, 10889035741470030830827987437816582766591), (77371252455336267181195264, 77371252455336267181195264, 0), (203099537695257701350637568, 10889035741470030830827987437816582766591, 10889035741470030830827987437816582766591), (0, 0, 10889035741470030830827987437816582766591), (618970019642690137449562112, 618970019642690137449562112, 0), (0, 0, 10889035741470030830827987437816582766591), (2475880078570760549798248448, 2475880078570760549798248448, 0), (6499185206248246443220402176, 10889035741470030830827987437816582766591, 10889035741470030830827987437816582766591), (0, 0, 10889035741470030830827987437816582766591), (19807040628566084398385987584, 19807040628566084398385987584, 0), (0, 0, 10889035741470030830827987437816582766591), (79228162514264337593543950336, 79228162514264337593543950336, 0), (207973926599943886183052869632, 10889035741470030830827987437816582766591, 10889035741470030830827987437816582766591), (0, 0, 10889035741470030830827987437816582766591), (633825300114114700748351602688, 633825300114114700748351602688, 0), (0, 0, 10889035741470030830827987437816582766591), (2535301200456458802993406410752, 2535301200456458802993406410752, 0), (6655165651198204357857691828224, 10889035741470030830827987437816582766591, 10889035741470030830827987437816582766591), (0, 0, 10889035741470030830827987437816582766591), (0, 0, 10889035741470030830827987437816582766591), (40564819207303340847894502572032, 40564819207303340847894502572032, 0), (0, 0, 10889035741470030830827987437816582766591), (162259276829213363391578010288128, 162259276829213363391578010288128, 0), (436071806478510914114865902649344, 10889035741470030830827987437816582766591, 10889035741470030830827987437816582766591), (0, 0, 10889035741470030830827987437816582766591), (1298074214633706907132624082305024, 1298074214633706907132624082305024, 0), (0, 0, 10889035741470030830827987437816582766591), (5192296858534827628530496329220096, 5192296858534827628530496329220096, 0), (13629779253653922524892552864202752, 10889035741470030830827987437816582766591, 10889035741470030830827987437816582766591), (0, 0, 10889035741470030830827987437816582766591), (41538374868278621028243970633760768, 41538374868278621028243970633760768, 0), (0, 0, 10889035741470030830827987437816582766591), (166153499473114484112975882535043072, 166153499473114484112975882535043072, 0), (436152936116925520796561691654488064, 10889035741470030830827987437816582766591, 10889035741470030830827987437816582766591), (0, 0, 10889035741470030830827987437816582766591), (1329227995784915872903807060280344576, 1329227995784915872903807060280344576, 0), (0, 0, 10889035741470030830827987437816582766591), (5316911983139663491615228241121378304, 5316911983139663491615228241121378304, 0), (13956893955741616665489974132943618048, 10889035741470030830827987437816582766591, 10889035741470030830827987437816582766591), (0, 0, 10889035741470030830827987437816582766591), (42535295865117307932921825928971026432, 42535295865117307932921825928971026432, 0), (0, 0, 10889035741470030830827987437816582766591), (170141183460469231731687303715884105728, 170141183460469231731687303715884105728, 0), (446620606583731733295679172254195777536, 10889035741470030830827987437816582766591, 10889035741470030830827987437816582766591), (680564743983081879868314130465656143872, 10889035741470030830827987437816582766591, 10889035741470030830827987437816582766591), (0, 10889035741470030830827987437816582766591, 10889035741470030830827987437816582766591), (5444517870735015415413993718908291383295, 10889035741470030830827987437816582766591, 10889035741470030830827987437816582766591)] rfl rfl (by kernel_rfl) (by kernel_rfl) (Nat.le_of_ble_eq_true (by kernel_rfl)) (by kernel_rfl) (by kernel_rfl) (by kernel_rfl) ?_
    have hp := hp.drew
    refine k_build (v := .agg (ints .u64 (List.replicate 2 (0 : Int))).toArray) rfl (fun _ => by kernel_rfl) ?_
    refine k_indexA (n := 5) (s := 1) (j := 0) rfl Try.underlying40 (by kernel_rfl) s2_e25 rfl (by decide) ?_
    refine k_load (j := 0) (v := .int .u64 (a0.getD 0 0)) rfl (by kernel_rfl) rfl (hp.get (j := 0) rfl) rfl rfl (ints_get (Nat.lt_of_lt_of_eq (m := 5) (by decide) (la0).symm)) ?_
    refine k_indexA (n := 5) (s := 1) (j := 0) rfl Try.underlying40 (by kernel_rfl) s3_e25 rfl (by decide) ?_
    refine k_load (j := 0) (v := .int .u64 (a1.getD 0 0)) rfl (by kernel_rfl) rfl (hp.get (j := 1) rfl) rfl rfl (ints_get (Nat.lt_of_lt_of_eq (m := 5) (by decide) (la1).symm)) ?_
    refine k_indexA (n := 5) (s := 1) (j := 1) rfl Try.underlying40 (by kernel_rfl) s2_e25 rfl (by decide) ?_
    refine k_load (j := 1) (v := .int .u64 (a0.getD 1 0)) rfl (by kernel_rfl) rfl (hp.get (j := 0) rfl) rfl rfl (ints_get (Nat.lt_of_lt_of_eq (m := 5) (by decide) (la0).symm)) ?_
    refine k_indexA (n := 5) (s := 1) (j := 4) rfl Try.underlying39 (by kernel_rfl) s5_e25 rfl (by decide) ?_
    refine k_load (j := 4) (v := .int .u64 (x5.getD 4 0)) rfl (by kernel_rfl) rfl (hp.get (j := 3) rfl) rfl rfl (ints_get (Nat.lt_of_lt_of_eq (m := 5) (by decide) (lx5).symm)) ?_
    refine k_indexA (n := 5) (s := 1) (j := 2) rfl Try.underlying40 (by kernel_rfl) s2_e25 rfl (by decide) ?_
    refine k_load (j := 2) (v := .int .u64 (a0.getD 2 0)) rfl (by kernel_rfl) rfl (hp.get (j := 0) rfl) rfl rfl (ints_get (Nat.lt_of_lt_of_eq (m := 5) (by decide) (la0).symm)) ?_
    refine k_indexA (n := 5) (s := 1) (j := 3) rfl Try.underlying39 (by kernel_rfl) s5_e25 rfl (by decide) ?_
    refine k_load (j := 3) (v := .int .u64 (x5.getD 3 0)) rfl (by kernel_rfl) rfl (hp.get (j := 3) rfl) rfl rfl (ints_get (Nat.lt_of_lt_of_eq (m := 5) (by decide) (lx5).symm)) ?_
    refine k_indexA (n := 5) (s := 1) (j := 3) rfl Try.underlying40 (by kernel_rfl) s2_e25 rfl (by decide) ?_
    refine k_load (j := 3) (v := .int .u64 (a0.getD 3 0)) rfl (by kernel_rfl) rfl (hp.get (j := 0) rfl) rfl rfl (ints_get (Nat.lt_of_lt_of_eq (m := 5) (by decide) (la0).symm)) ?_
    refine k_indexA (n := 5) (s := 1) (j := 2) rfl Try.underlying39 (by kernel_rfl) s5_e25 rfl (by decide) ?_
    refine k_load (j := 2) (v := .int .u64 (x5.getD 2 0)) rfl (by kernel_rfl) rfl (hp.get (j := 3) rfl) rfl rfl (ints_get (Nat.lt_of_lt_of_eq (m := 5) (by decide) (lx5).symm)) ?_
    refine k_indexA (n := 5) (s := 1) (j := 4) rfl Try.underlying40 (by kernel_rfl) s2_e25 rfl (by decide) ?_
    refine k_load (j := 4) (v := .int .u64 (a0.getD 4 0)) rfl (by kernel_rfl) rfl (hp.get (j := 0) rfl) rfl rfl (ints_get (Nat.lt_of_lt_of_eq (m := 5) (by decide) (la0).symm)) ?_
    refine k_indexA (n := 5) (s := 1) (j := 1) rfl Try.underlying39 (by kernel_rfl) s5_e25 rfl (by decide) ?_
    refine k_load (j := 1) (v := .int .u64 (x5.getD 1 0)) rfl (by kernel_rfl) rfl (hp.get (j := 3) rfl) rfl rfl (ints_get (Nat.lt_of_lt_of_eq (m := 5) (by decide) (lx5).symm)) ?_
    refine k_build (v := .agg (ints .u64 (List.replicate 2 (0 : Int))).toArray) rfl (fun _ => by kernel_rfl) ?_
    refine k_indexA (n := 5) (s := 1) (j := 0) rfl Try.underlying40 (by kernel_rfl) s2_e25 rfl (by decide) ?_
    refine k_load (j := 0) (v := .int .u64 (a0.getD 0 0)) rfl (by kernel_rfl) rfl (hp.get (j := 0) rfl) rfl rfl (ints_get (Nat.lt_of_lt_of_eq (m := 5) (by decide) (la0).symm)) ?_
    refine k_indexA (n := 5) (s := 1) (j := 1) rfl Try.underlying40 (by kernel_rfl) s3_e25 rfl (by decide) ?_
    refine k_load (j := 1) (v := .int .u64 (a1.getD 1 0)) rfl (by kernel_rfl) rfl (hp.get (j := 1) rfl) rfl rfl (ints_get (Nat.lt_of_lt_of_eq (m := 5) (by decide) (la1).symm)) ?_
    refine k_indexA (n := 5) (s := 1) (j := 1) rfl Try.underlying40 (by kernel_rfl) s2_e25 rfl (by decide) ?_
    refine k_load (j := 1) (v := .int .u64 (a0.getD 1 0)) rfl (by kernel_rfl) rfl (hp.get (j := 0) rfl) rfl rfl (ints_get (Nat.lt_of_lt_of_eq (m := 5) (by decide) (la0).symm)) ?_
    refine k_indexA (n := 5) (s := 1) (j := 0) rfl Try.underlying40 (by kernel_rfl) s3_e25 rfl (by decide) ?_
    refine k_load (j := 0) (v := .int .u64 (a1.getD 0 0)) rfl (by kernel_rfl) rfl (hp.get (j := 1) rfl) rfl rfl (ints_get (Nat.lt_of_lt_of_eq (m := 5) (by decide) (la1).symm)) ?_
    refine k_indexA (n := 5) (s := 1) (j := 2) rfl Try.underlying40 (by kernel_rfl) s2_e25 rfl (by decide) ?_
    refine k_load (j := 2) (v := .int .u64 (a0.getD 2 0)) rfl (by kernel_rfl) rfl (hp.get (j := 0) rfl) rfl rfl (ints_get (Nat.lt_of_lt_of_eq (m := 5) (by decide) (la0).symm)) ?_
    refine k_indexA (n := 5) (s := 1) (j := 4) rfl Try.underlying39 (by kernel_rfl) s5_e25 rfl (by decide) ?_
    refine k_load (j := 4) (v := .int .u64 (x5.getD 4 0)) rfl (by kernel_rfl) rfl (hp.get (j := 3) rfl) rfl rfl (ints_get (Nat.lt_of_lt_of_eq (m := 5) (by decide) (lx5).symm)) ?_
    refine k_indexA (n := 5) (s := 1) (j := 3) rfl Try.underlying40 (by kernel_rfl) s2_e25 rfl (by decide) ?_
    refine k_load (j := 3) (v := .int .u64 (a0.getD 3 0)) rfl (by kernel_rfl) rfl (hp.get (j := 0) rfl) rfl rfl (ints_get (Nat.lt_of_lt_of_eq (m := 5) (by decide) (la0).symm)) ?_
    refine k_indexA (n := 5) (s := 1) (j := 3) rfl Try.underlying39 (by kernel_rfl) s5_e25 rfl (by decide) ?_
    refine k_load (j := 3) (v := .int .u64 (x5.getD 3 0)) rfl (by kernel_rfl) rfl (hp.get (j := 3) rfl) rfl rfl (ints_get (Nat.lt_of_lt_of_eq (m := 5) (by decide) (lx5).symm)) ?_
    refine k_indexA (n := 5) (s := 1) (j := 4) rfl Try.underlying40 (by kernel_rfl) s2_e25 rfl (by decide) ?_
    refine k_load (j := 4) (v := .int .u64 (a0.getD 4 0)) rfl (by kernel_rfl) rfl (hp.get (j := 0) rfl) rfl rfl (ints_get (Nat.lt_of_lt_of_eq (m := 5) (by decide) (la0).symm)) ?_
    refine k_indexA (n := 5) (s := 1) (j := 2) rfl Try.underlying39 (by kernel_rfl) s5_e25 rfl (by decide) ?_
    refine k_load (j := 2) (v := .int .u64 (x5.getD 2 0)) rfl (by kernel_rfl) rfl (hp.get (j := 3) rfl) rfl rfl (ints_get (Nat.lt_of_lt_of_eq (m := 5) (by decide) (lx5).symm)) ?_
    refine k_build (v := .agg (ints .u64 (List.replicate 2 (0 : Int))).toArray) rfl (fun _ => by kernel_rfl) ?_
    refine k_indexA (n := 5) (s := 1) (j := 0) rfl Try.underlying40 (by kernel_rfl) s2_e25 rfl (by decide) ?_
    refine k_load (j := 0) (v := .int .u64 (a0.getD 0 0)) rfl (by kernel_rfl) rfl (hp.get (j := 0) rfl) rfl rfl (ints_get (Nat.lt_of_lt_of_eq (m := 5) (by decide) (la0).symm)) ?_
    refine k_indexA (n := 5) (s := 1) (j := 2) rfl Try.underlying40 (by kernel_rfl) s3_e25 rfl (by decide) ?_
    refine k_load (j := 2) (v := .int .u64 (a1.getD 2 0)) rfl (by kernel_rfl) rfl (hp.get (j := 1) rfl) rfl rfl (ints_get (Nat.lt_of_lt_of_eq (m := 5) (by decide) (la1).symm)) ?_
    refine k_indexA (n := 5) (s := 1) (j := 1) rfl Try.underlying40 (by kernel_rfl) s2_e25 rfl (by decide) ?_
    refine k_load (j := 1) (v := .int .u64 (a0.getD 1 0)) rfl (by kernel_rfl) rfl (hp.get (j := 0) rfl) rfl rfl (ints_get (Nat.lt_of_lt_of_eq (m := 5) (by decide) (la0).symm)) ?_
    refine k_indexA (n := 5) (s := 1) (j := 1) rfl Try.underlying40 (by kernel_rfl) s3_e25 rfl (by decide) ?_
    refine k_load (j := 1) (v := .int .u64 (a1.getD 1 0)) rfl (by kernel_rfl) rfl (hp.get (j := 1) rfl) rfl rfl (ints_get (Nat.lt_of_lt_of_eq (m := 5) (by decide) (la1).symm)) ?_
    refine k_indexA (n := 5) (s := 1) (j := 2) rfl Try.underlying40 (by kernel_rfl) s2_e25 rfl (by decide) ?_
    refine k_load (j := 2) (v := .int .u64 (a0.getD 2 0)) rfl (by kernel_rfl) rfl (hp.get (j := 0) rfl) rfl rfl (ints_get (Nat.lt_of_lt_of_eq (m := 5) (by decide) (la0).symm)) ?_
    refine k_indexA (n := 5) (s := 1) (j := 0) rfl Try.underlying40 (by kernel_rfl) s3_e25 rfl (by decide) ?_
    refine k_load (j := 0) (v := .int .u64 (a1.getD 0 0)) rfl (by kernel_rfl) rfl (hp.get (j := 1) rfl) rfl rfl (ints_get (Nat.lt_of_lt_of_eq (m := 5) (by decide) (la1).symm)) ?_
    refine k_indexA (n := 5) (s := 1) (j := 3) rfl Try.underlying40 (by kernel_rfl) s2_e25 rfl (by decide) ?_
    refine k_load (j := 3) (v := .int .u64 (a0.getD 3 0)) rfl (by kernel_rfl) rfl (hp.get (j := 0) rfl) rfl rfl (ints_get (Nat.lt_of_lt_of_eq (m := 5) (by decide) (la0).symm)) ?_
    refine k_indexA (n := 5) (s := 1) (j := 4) rfl Try.underlying39 (by kernel_rfl) s5_e25 rfl (by decide) ?_
    refine k_load (j := 4) (v := .int .u64 (x5.getD 4 0)) rfl (by kernel_rfl) rfl (hp.get (j := 3) rfl) rfl rfl (ints_get (Nat.lt_of_lt_of_eq (m := 5) (by decide) (lx5).symm)) ?_
    refine k_indexA (n := 5) (s := 1) (j := 4) rfl Try.underlying40 (by kernel_rfl) s2_e25 rfl (by decide) ?_
    refine k_load (j := 4) (v := .int .u64 (a0.getD 4 0)) rfl (by kernel_rfl) rfl (hp.get (j := 0) rfl) rfl rfl (ints_get (Nat.lt_of_lt_of_eq (m := 5) (by decide) (la0).symm)) ?_
    refine k_indexA (n := 5) (s := 1) (j := 3) rfl Try.underlying39 (by kernel_rfl) s5_e25 rfl (by decide) ?_
    refine k_load (j := 3) (v := .int .u64 (x5.getD 3 0)) rfl (by kernel_rfl) rfl (hp.get (j := 3) rfl) rfl rfl (ints_get (Nat.lt_of_lt_of_eq (m := 5) (by decide) (lx5).symm)) ?_
    refine k_build (v := .agg (ints .u64 (List.replicate 2 (0 : Int))).toArray) rfl (fun _ => by kernel_rfl) ?_
    refine k_indexA (n := 5) (s := 1) (j := 0) rfl Try.underlying40 (by kernel_rfl) s2_e25 rfl (by decide) ?_
    refine k_load (j := 0) (v := .int .u64 (a0.getD 0 0)) rfl (by kernel_rfl) rfl (hp.get (j := 0) rfl) rfl rfl (ints_get (Nat.lt_of_lt_of_eq (m := 5) (by decide) (la0).symm)) ?_
    refine k_indexA (n := 5) (s := 1) (j := 3) rfl Try.underlying40 (by kernel_rfl) s3_e25 rfl (by decide) ?_
    refine k_load (j := 3) (v := .int .u64 (a1.getD 3 0)) rfl (by kernel_rfl) rfl (hp.get (j := 1) rfl) rfl rfl (ints_get (Nat.lt_of_lt_of_eq (m := 5) (by decide) (la1).symm)) ?_
    refine k_indexA (n := 5) (s := 1) (j := 1) rfl Try.underlying40 (by kernel_rfl) s2_e25 rfl (by decide) ?_
    refine k_load (j := 1) (v := .int .u64 (a0.getD 1 0)) rfl (by kernel_rfl) rfl (hp.get (j := 0) rfl) rfl rfl (ints_get (Nat.lt_of_lt_of_eq (m := 5) (by decide) (la0).symm)) ?_
    refine k_indexA (n := 5) (s := 1) (j := 2) rfl Try.underlying40 (by kernel_rfl) s3_e25 rfl (by decide) ?_
    refine k_load (j := 2) (v := .int .u64 (a1.getD 2 0)) rfl (by kernel_rfl) rfl (hp.get (j := 1) rfl) rfl rfl (ints_get (Nat.lt_of_lt_of_eq (m := 5) (by decide) (la1).symm)) ?_
    refine k_indexA (n := 5) (s := 1) (j := 2) rfl Try.underlying40 (by kernel_rfl) s2_e25 rfl (by decide) ?_
    refine k_load (j := 2) (v := .int .u64 (a0.getD 2 0)) rfl (by kernel_rfl) rfl (hp.get (j := 0) rfl) rfl rfl (ints_get (Nat.lt_of_lt_of_eq (m := 5) (by decide) (la0).symm)) ?_
    refine k_indexA (n := 5) (s := 1) (j := 1) rfl Try.underlying40 (by kernel_rfl) s3_e25 rfl (by decide) ?_
    refine k_load (j := 1) (v := .int .u64 (a1.getD 1 0)) rfl (by kernel_rfl) rfl (hp.get (j := 1) rfl) rfl rfl (ints_get (Nat.lt_of_lt_of_eq (m := 5) (by decide) (la1).symm)) ?_
    refine k_indexA (n := 5) (s := 1) (j := 3) rfl Try.underlying40 (by kernel_rfl) s2_e25 rfl (by decide) ?_
    refine k_load (j := 3) (v := .int .u64 (a0.getD 3 0)) rfl (by kernel_rfl) rfl (hp.get (j := 0) rfl) rfl rfl (ints_get (Nat.lt_of_lt_of_eq (m := 5) (by decide) (la0).symm)) ?_
    refine k_indexA (n := 5) (s := 1) (j := 0) rfl Try.underlying40 (by kernel_rfl) s3_e25 rfl (by decide) ?_
    refine k_load (j := 0) (v := .int .u64 (a1.getD 0 0)) rfl (by kernel_rfl) rfl (hp.get (j := 1) rfl) rfl rfl (ints_get (Nat.lt_of_lt_of_eq (m := 5) (by decide) (la1).symm)) ?_
    refine k_indexA (n := 5) (s := 1) (j := 4) rfl Try.underlying40 (by kernel_rfl) s2_e25 rfl (by decide) ?_
    refine k_load (j := 4) (v := .int .u64 (a0.getD 4 0)) rfl (by kernel_rfl) rfl (hp.get (j := 0) rfl) rfl rfl (ints_get (Nat.lt_of_lt_of_eq (m := 5) (by decide) (la0).symm)) ?_
    refine k_indexA (n := 5) (s := 1) (j := 4) rfl Try.underlying39 (by kernel_rfl) s5_e25 rfl (by decide) ?_
    refine k_load (j := 4) (v := .int .u64 (x5.getD 4 0)) rfl (by kernel_rfl) rfl (hp.get (j := 3) rfl) rfl rfl (ints_get (Nat.lt_of_lt_of_eq (m := 5) (by decide) (lx5).symm)) ?_
    refine k_build (v := .agg (ints .u64 (List.replicate 2 (0 : Int))).toArray) rfl (fun _ => by kernel_rfl) ?_
    refine k_indexA (n := 5) (s := 1) (j := 0) rfl Try.underlying40 (by kernel_rfl) s2_e25 rfl (by decide) ?_
    refine k_load (j := 0) (v := .int .u64 (a0.getD 0 0)) rfl (by kernel_rfl) rfl (hp.get (j := 0) rfl) rfl rfl (ints_get (Nat.lt_of_lt_of_eq (m := 5) (by decide) (la0).symm)) ?_
    refine k_indexA (n := 5) (s := 1) (j := 4) rfl Try.underlying40 (by kernel_rfl) s3_e25 rfl (by decide) ?_
    refine k_load (j := 4) (v := .int .u64 (a1.getD 4 0)) rfl (by kernel_rfl) rfl (hp.get (j := 1) rfl) rfl rfl (ints_get (Nat.lt_of_lt_of_eq (m := 5) (by decide) (la1).symm)) ?_
    refine k_indexA (n := 5) (s := 1) (j := 1) rfl Try.underlying40 (by kernel_rfl) s2_e25 rfl (by decide) ?_
    refine k_load (j := 1) (v := .int .u64 (a0.getD 1 0)) rfl (by kernel_rfl) rfl (hp.get (j := 0) rfl) rfl rfl (ints_get (Nat.lt_of_lt_of_eq (m := 5) (by decide) (la0).symm)) ?_
    refine k_indexA (n := 5) (s := 1) (j := 3) rfl Try.underlying40 (by kernel_rfl) s3_e25 rfl (by decide) ?_
    refine k_load (j := 3) (v := .int .u64 (a1.getD 3 0)) rfl (by kernel_rfl) rfl (hp.get (j := 1) rfl) rfl rfl (ints_get (Nat.lt_of_lt_of_eq (m := 5) (by decide) (la1).symm)) ?_
    refine k_indexA (n := 5) (s := 1) (j := 2) rfl Try.underlying40 (by kernel_rfl) s2_e25 rfl (by decide) ?_
    refine k_load (j := 2) (v := .int .u64 (a0.getD 2 0)) rfl (by kernel_rfl) rfl (hp.get (j := 0) rfl) rfl rfl (ints_get (Nat.lt_of_lt_of_eq (m := 5) (by decide) (la0).symm)) ?_
    refine k_indexA (n := 5) (s := 1) (j := 2) rfl Try.underlying40 (by kernel_rfl) s3_e25 rfl (by decide) ?_
    refine k_load (j := 2) (v := .int .u64 (a1.getD 2 0)) rfl (by kernel_rfl) rfl (hp.get (j := 1) rfl) rfl rfl (ints_get (Nat.lt_of_lt_of_eq (m := 5) (by decide) (la1).symm)) ?_
    refine k_indexA (n := 5) (s := 1) (j := 3) rfl Try.underlying40 (by kernel_rfl) s2_e25 rfl (by decide) ?_
    refine k_load (j := 3) (v := .int .u64 (a0.getD 3 0)) rfl (by kernel_rfl) rfl (hp.get (j := 0) rfl) rfl rfl (ints_get (Nat.lt_of_lt_of_eq (m := 5) (by decide) (la0).symm)) ?_
    refine k_indexA (n := 5) (s := 1) (j := 1) rfl Try.underlying40 (by kernel_rfl) s3_e25 rfl (by decide) ?_
    refine k_load (j := 1) (v := .int .u64 (a1.getD 1 0)) rfl (by kernel_rfl) rfl (hp.get (j := 1) rfl) rfl rfl (ints_get (Nat.lt_of_lt_of_eq (m := 5) (by decide) (la1).symm)) ?_
    refine k_indexA (n := 5) (s := 1) (j := 4) rfl Try.underlying40 (by kernel_rfl) s2_e25 rfl (by decide) ?_
    refine k_load (j := 4) (v := .int .u64 (a0.getD 4 0)) rfl (by kernel_rfl) rfl (hp.get (j := 0) rfl) rfl rfl (ints_get (Nat.lt_of_lt_of_eq (m := 5) (by decide) (la0).symm)) ?_
    refine k_indexA (n := 5) (s := 1) (j := 0) rfl Try.underlying40 (by kernel_rfl) s3_e25 rfl (by decide) ?_
    refine k_load (j := 0) (v := .int .u64 (a1.getD 0 0)) rfl (by kernel_rfl) rfl (hp.get (j := 1) rfl) rfl rfl (ints_get (Nat.lt_of_lt_of_eq (m := 5) (by decide) (la1).symm)) ?_
    refine k_rest [5, 10, 15, 20, 25, 31, 36, 41, 46, 51, 57, 62, 67, 72, 77, 83, 88, 93, 98, 103, 109, 114, 119, 124, 129, 130, 131, 132] (fun L e w => ∃ g31 : Nat, ∃ c_g31_0 : List Int, (((((((L 5 = true → r6.length = 2) ∧ (L 10 = true → r7.length = 2)) ∧ ((L 15 = true → r8.length = 2) ∧ (L 20 = true → r9.length = 2))) ∧ (((L 25 = true → r10.length = 2) ∧ (L 31 = true → r11.length = 2)) ∧ (L 36 = true → r12.length = 2))) ∧ ((((L 41 = true → r13.length = 2) ∧ (L 46 = true → r14.length = 2)) ∧ ((L 51 = true → r15.length = 2) ∧ (L 57 = true → r16.length = 2))) ∧ (((L 62 = true → r17.length = 2) ∧ (L 67 = true → r18.length = 2)) ∧ (L 72 = true → r19.length = 2)))) ∧ (((((L 77 = true → r20.length = 2) ∧ (L 83 = true → r21.length = 2)) ∧ ((L 88 = true → r22.length = 2) ∧ (L 93 = true → r23.length = 2))) ∧ (((L 98 = true → r24.length = 2) ∧ (L 103 = true → r25.length = 2)) ∧ (L 109 = true → r26.length = 2))) ∧ ((((L 114 = true → r27.length = 2) ∧ (L 119 = true → r28.length = 2)) ∧ ((L 124 = true → r29.length = 2) ∧ (L 129 = true → r30.length = 2))) ∧ ((((((((e 4 = .pointer (some ⟨g3, 0, none⟩) ∧ e 20 = .agg (ints .u64 (List.replicate 2 (0 : Int))).toArray) ∧ (e 22 = .int .u64 (a0.getD 0 0) ∧ e 24 = .int .u64 (a1.getD 0 0))) ∧ ((e 27 = .int .u64 (a0.getD 1 0) ∧ e 29 = .int .u64 (x5.getD 4 0)) ∧ e 32 = .int .u64 (a0.getD 2 0))) ∧ (((e 34 = .int .u64 (x5.getD 3 0) ∧ e 37 = .int .u64 (a0.getD 3 0)) ∧ (e 39 = .int .u64 (x5.getD 2 0) ∧ e 42 = .int .u64 (a0.getD 4 0))) ∧ ((e 44 = .int .u64 (x5.getD 1 0) ∧ e 46 = .agg (ints .u64 (List.replicate 2 (0 : Int))).toArray) ∧ e 48 = .int .u64 (a0.getD 0 0)))) ∧ ((((e 50 = .int .u64 (a1.getD 1 0) ∧ e 53 = .int .u64 (a0.getD 1 0)) ∧ (e 55 = .int .u64 (a1.getD 0 0) ∧ e 58 = .int .u64 (a0.getD 2 0))) ∧ ((e 60 = .int .u64 (x5.getD 4 0) ∧ e 63 = .int .u64 (a0.getD 3 0)) ∧ e 65 = .int .u64 (x5.getD 3 0))) ∧ (((e 68 = .int .u64 (a0.getD 4 0) ∧ e 70 = .int .u64 (x5.getD 2 0)) ∧ (e 72 = .agg (ints .u64 (List.replicate 2 (0 : Int))).toArray ∧ e 74 = .int .u64 (a0.getD 0 0))) ∧ ((e 76 = .int .u64 (a1.getD 2 0) ∧ e 79 = .int .u64 (a0.getD 1 0)) ∧ e 81 = .int .u64 (a1.getD 1 0))))) ∧ (((((e 84 = .int .u64 (a0.getD 2 0) ∧ e 86 = .int .u64 (a1.getD 0 0)) ∧ (e 89 = .int .u64 (a0.getD 3 0) ∧ e 91 = .int .u64 (x5.getD 4 0))) ∧ ((e 94 = .int .u64 (a0.getD 4 0) ∧ e 96 = .int .u64 (x5.getD 3 0)) ∧ e 98 = .agg (ints .u64 (List.replicate 2 (0 : Int))).toArray)) ∧ (((e 100 = .int .u64 (a0.getD 0 0) ∧ e 102 = .int .u64 (a1.getD 3 0)) ∧ (e 105 = .int .u64 (a0.getD 1 0) ∧ e 107 = .int .u64 (a1.getD 2 0))) ∧ ((e 110 = .int .u64 (a0.getD 2 0) ∧ e 112 = .int .u64 (a1.getD 1 0)) ∧ e 115 = .int .u64 (a0.getD 3 0)))) ∧ ((((e 117 = .int .u64 (a1.getD 0 0) ∧ e 120 = .int .u64 (a0.getD 4 0)) ∧ (e 122 = .int .u64 (x5.getD 4 0) ∧ e 124 = .agg (ints .u64 (List.replicate 2 (0 : Int))).toArray)) ∧ ((e 126 = .int .u64 (a0.getD 0 0) ∧ e 128 = .int .u64 (a1.getD 4 0)) ∧ e 131 = .int .u64 (a0.getD 1 0))) ∧ (((e 133 = .int .u64 (a1.getD 3 0) ∧ e 136 = .int .u64 (a0.getD 2 0)) ∧ (e 138 = .int .u64 (a1.getD 2 0) ∧ e 141 = .int .u64 (a0.getD 3 0))) ∧ ((e 143 = .int .u64 (a1.getD 1 0) ∧ e 146 = .int .u64 (a0.getD 4 0)) ∧ e 148 = .int .u64 (a1.getD 0 0)))))) ∧ (L 5 = true → e 25 = .agg (ints .u64 r6).toArray)) ∧ (L 10 = true → e 30 = .agg (ints .u64 r7).toArray))))) ∧ ((((((L 15 = true → e 35 = .agg (ints .u64 r8).toArray) ∧ (L 20 = true → e 40 = .agg (ints .u64 r9).toArray)) ∧ ((L 25 = true → e 45 = .agg (ints .u64 r10).toArray) ∧ (L 31 = true → e 51 = .agg (ints .u64 r11).toArray))) ∧ (((L 36 = true → e 56 = .agg (ints .u64 r12).toArray) ∧ (L 41 = true → e 61 = .agg (ints .u64 r13).toArray)) ∧ (L 46 = true → e 66 = .agg (ints .u64 r14).toArray))) ∧ ((((L 51 = true → e 71 = .agg (ints .u64 r15).toArray) ∧ (L 57 = true → e 77 = .agg (ints .u64 r16).toArray)) ∧ ((L 62 = true → e 82 = .agg (ints .u64 r17).toArray) ∧ (L 67 = true → e 87 = .agg (ints .u64 r18).toArray))) ∧ (((L 72 = true → e 92 = .agg (ints .u64 r19).toArray) ∧ (L 77 = true → e 97 = .agg (ints .u64 r20).toArray)) ∧ (L 83 = true → e 103 = .agg (ints .u64 r21).toArray)))) ∧ (((((L 88 = true → e 108 = .agg (ints .u64 r22).toArray) ∧ (L 93 = true → e 113 = .agg (ints .u64 r23).toArray)) ∧ ((L 98 = true → e 118 = .agg (ints .u64 r24).toArray) ∧ (L 103 = true → e 123 = .agg (ints .u64 r25).toArray))) ∧ (((L 109 = true → e 129 = .agg (ints .u64 r26).toArray) ∧ (L 114 = true → e 134 = .agg (ints .u64 r27).toArray)) ∧ (L 119 = true → e 139 = .agg (ints .u64 r28).toArray))) ∧ ((((L 124 = true → e 144 = .agg (ints .u64 r29).toArray) ∧ (L 129 = true → e 149 = .agg (ints .u64 r30).toArray)) ∧ ((L 130 = true → e 150 = .agg (ints .u64 (r10 ++ r15 ++ r20 ++ r25 ++ r30)).toArray) ∧ (L 131 = true → e 6 = .pointer (some ⟨g31, 0, none⟩)))) ∧ (((L 131 = false → c_g31_0 = ([] : List Int)) ∧ (L 132 = false → L 131 = true → c_g31_0 = (List.replicate 10 (0 : Int)))) ∧ (L 132 = true → c_g31_0 = (r10 ++ r15 ++ r20 ++ r25 ++ r30))))))) ∧ Hp w0 [] w [⟨g1, 0, ints .u64 a0⟩, ⟨g2, 0, ints .u64 a1⟩, ⟨g3, 0, ints .u64 (List.replicate 5 (0 : Int))⟩, ⟨g4, 0, ints .u64 x5⟩, ⟨g31, 0, ints .u64 c_g31_0⟩] []) (by kernel_rfl) (by kernel_rfl) ?_ ?_ ?_
    have hp := hp.free1 0 0
    · exact ⟨0, ([] : List Int), ⟨⟨⟨⟨⟨⟨(fun h => absurd h (by decide)), (fun h => absurd h (by decide))⟩, ⟨(fun h => absurd h (by decide)), (fun h => absurd h (by decide))⟩⟩, ⟨⟨(fun h => absurd h (by decide)), (fun h => absurd h (by decide))⟩, (fun h => absurd h (by decide))⟩⟩, ⟨⟨⟨(fun h => absurd h (by decide)), (fun h => absurd h (by decide))⟩, ⟨(fun h => absurd h (by decide)), (fun h => absurd h (by decide))⟩⟩, ⟨⟨(fun h => absurd h (by decide)), (fun h => absurd h (by decide))⟩, (fun h => absurd h (by decide))⟩⟩⟩, ⟨⟨⟨⟨(fun h => absurd h (by decide)), (fun h => absurd h (by decide))⟩, ⟨(fun h => absurd h (by decide)), (fun h => absurd h (by decide))⟩⟩, ⟨⟨(fun h => absurd h (by decide)), (fun h => absurd h (by decide))⟩, (fun h => absurd h (by decide))⟩⟩, ⟨⟨⟨(fun h => absurd h (by decide)), (fun h => absurd h (by decide))⟩, ⟨(fun h => absurd h (by decide)), (fun h => absurd h (by decide))⟩⟩, ⟨⟨⟨⟨⟨⟨⟨⟨s4_e25, rfl⟩, ⟨rfl, rfl⟩⟩, ⟨⟨rfl, rfl⟩, rfl⟩⟩, ⟨⟨⟨rfl, rfl⟩, ⟨rfl, rfl⟩⟩, ⟨⟨rfl, rfl⟩, rfl⟩⟩⟩, ⟨⟨⟨⟨rfl, rfl⟩, ⟨rfl, rfl⟩⟩, ⟨⟨rfl, rfl⟩, rfl⟩⟩, ⟨⟨⟨rfl, rfl⟩, ⟨rfl, rfl⟩⟩, ⟨⟨rfl, rfl⟩, rfl⟩⟩⟩⟩, ⟨⟨⟨⟨⟨rfl, rfl⟩, ⟨rfl, rfl⟩⟩, ⟨⟨rfl, rfl⟩, rfl⟩⟩, ⟨⟨⟨rfl, rfl⟩, ⟨rfl, rfl⟩⟩, ⟨⟨rfl, rfl⟩, rfl⟩⟩⟩, ⟨⟨⟨⟨rfl, rfl⟩, ⟨rfl, rfl⟩⟩, ⟨⟨rfl, rfl⟩, rfl⟩⟩, ⟨⟨⟨rfl, rfl⟩, ⟨rfl, rfl⟩⟩, ⟨⟨rfl, rfl⟩, rfl⟩⟩⟩⟩⟩, (fun h => absurd h (by decide))⟩, (fun h => absurd h (by decide))⟩⟩⟩⟩, ⟨⟨⟨⟨⟨(fun h => absurd h (by decide)), (fun h => absurd h (by decide))⟩, ⟨(fun h => absurd h (by decide)), (fun h => absurd h (by decide))⟩⟩, ⟨⟨(fun h => absurd h (by decide)), (fun h => absurd h (by decide))⟩, (fun h => absurd h (by decide))⟩⟩, ⟨⟨⟨(fun h => absurd h (by decide)), (fun h => absurd h (by decide))⟩, ⟨(fun h => absurd h (by decide)), (fun h => absurd h (by decide))⟩⟩, ⟨⟨(fun h => absurd h (by decide)), (fun h => absurd h (by decide))⟩, (fun h => absurd h (by decide))⟩⟩⟩, ⟨⟨⟨⟨(fun h => absurd h (by decide)), (fun h => absurd h (by decide))⟩, ⟨(fun h => absurd h (by decide)), (fun h => absurd h (by decide))⟩⟩, ⟨⟨(fun h => absurd h (by decide)), (fun h => absurd h (by decide))⟩, (fun h => absurd h (by decide))⟩⟩, ⟨⟨⟨(fun h => absurd h (by decide)), (fun h => absurd h (by decide))⟩, ⟨(fun h => absurd h (by decide)), (fun h => absurd h (by decide))⟩⟩, ⟨⟨(fun _ => rfl), (fun _ h => absurd h (by decide))⟩, (fun h => absurd h (by decide))⟩⟩⟩⟩⟩, hp⟩
    · rintro L e w hall ⟨g31, c_g31_0, hF, hp⟩
      have qc_g31_0 := hF.2.2.2.2.2 (hall 132 rfl)
      rw [qc_g31_0] at hp
      exact onlyN_i ⟨g31, ⟨⟨⟨(hF.1.1.1.2.1.1 (hall 25 rfl)), (hF.1.1.2.1.2.1 (hall 51 rfl))⟩, ⟨(hF.1.2.1.1.1.1 (hall 77 rfl)), (hF.1.2.1.2.1.2 (hall 103 rfl))⟩⟩, ⟨⟨(hF.1.2.2.1.2.2 (hall 129 rfl)), hF.1.2.2.2.1.1.1.1.1.1.1.1⟩, (hF.2.2.2.1.2.2 (hall 131 rfl))⟩⟩, hp⟩
    refine allU_cons ?_ ?_
    · rintro L e w hLi hb hcl ⟨g31, c_g31_0, hF, hp⟩
      refine k_call [.agg (ints .u64 (List.replicate 2 (0 : Int))).toArray, .int .u64 (a0.getD 0 0), .int .u64 (a1.getD 0 0)] rfl (by kernel_rfl) (args3 hF.1.2.2.2.1.1.1.1.1.1.1.2 hF.1.2.2.2.1.1.1.1.1.1.2.1 hF.1.2.2.2.1.1.1.1.1.1.2.2) (field_wide_add_ok (List.replicate 2 (0 : Int)) (a0.getD 0 0) (a1.getD 0 0) List.length_replicate _ (hp.toR (fun _ h => by cases h)) qr6) ?_
      rintro _ w' ⟨_, rfl, rfl, lr60, hpc⟩
      refine ⟨_, rfl, .inr (.of_below hpc.chg.to_below), ?_⟩; have hp := hp.below hpc.chg.to_below; clear hpc
      exact k_done ⟨g31, c_g31_0, ⟨⟨⟨⟨⟨⟨(fun _ => lr60), hF.1.1.1.1.1.2⟩, hF.1.1.1.1.2⟩, hF.1.1.1.2⟩, hF.1.1.2⟩, ⟨hF.1.2.1, ⟨hF.1.2.2.1, ⟨⟨hF.1.2.2.2.1.1, (fun _ => rfl)⟩, hF.1.2.2.2.2⟩⟩⟩⟩, hF.2⟩, hp⟩
    refine allU_cons ?_ ?_
    · rintro L e w hLi hb hcl ⟨g31, c_g31_0, hF, hp⟩
      have hL5 := hb 5 (by kernel_rfl)
      have lr60 := hF.1.1.1.1.1.1 hL5
      refine k_call [.agg (ints .u64 r6).toArray, .int .u64 (a0.getD 1 0), .int .u64 (x5.getD 4 0)] rfl (by kernel_rfl) (args3 (hF.1.2.2.2.1.2 hL5) hF.1.2.2.2.1.1.1.1.1.2.1.1 hF.1.2.2.2.1.1.1.1.1.2.1.2) (field_wide_add_ok r6 (a0.getD 1 0) (x5.getD 4 0) lr60 _ (hp.toR (fun _ h => by cases h)) qr7) ?_
      rintro _ w' ⟨_, rfl, rfl, lr70, hpc⟩
      refine ⟨_, rfl, .inr (.of_below hpc.chg.to_below), ?_⟩; have hp := hp.below hpc.chg.to_below; clear hpc
      exact k_done ⟨g31, c_g31_0, ⟨⟨⟨⟨⟨⟨hF.1.1.1.1.1.1, (fun _ => lr70)⟩, hF.1.1.1.1.2⟩, hF.1.1.1.2⟩, hF.1.1.2⟩, ⟨hF.1.2.1, ⟨hF.1.2.2.1, ⟨hF.1.2.2.2.1, (fun _ => rfl)⟩⟩⟩⟩, hF.2⟩, hp⟩
    refine allU_cons ?_ ?_
    · rintro L e w hLi hb hcl ⟨g31, c_g31_0, hF, hp⟩
      have hL10 := hb 10 (by kernel_rfl)
      have lr70 := hF.1.1.1.1.1.2 hL10
      refine k_call [.agg (ints .u64 r7).toArray, .int .u64 (a0.getD 2 0), .int .u64 (x5.getD 3 0)] rfl (by kernel_rfl) (args3 (hF.1.2.2.2.2 hL10) hF.1.2.2.2.1.1.1.1.1.2.2 hF.1.2.2.2.1.1.1.1.2.1.1.1) (field_wide_add_ok r7 (a0.getD 2 0) (x5.getD 3 0) lr70 _ (hp.toR (fun _ h => by cases h)) qr8) ?_
      rintro _ w' ⟨_, rfl, rfl, lr80, hpc⟩
      refine ⟨_, rfl, .inr (.of_below hpc.chg.to_below), ?_⟩; have hp := hp.below hpc.chg.to_below; clear hpc
      exact k_done ⟨g31, c_g31_0, ⟨⟨⟨⟨⟨hF.1.1.1.1.1, ⟨(fun _ => lr80), hF.1.1.1.1.2.2⟩⟩, hF.1.1.1.2⟩, hF.1.1.2⟩, hF.1.2⟩, ⟨⟨⟨⟨⟨(fun _ => rfl), hF.2.1.1.1.1.2⟩, hF.2.1.1.1.2⟩, hF.2.1.1.2⟩, hF.2.1.2⟩, hF.2.2⟩⟩, hp⟩
    refine allU_cons ?_ ?_
    · rintro L e w hLi hb hcl ⟨g31, c_g31_0, hF, hp⟩
      have hL15 := hb 15 (by kernel_rfl)
      have lr80 := hF.1.1.1.1.2.1 hL15
      refine k_call [.agg (ints .u64 r8).toArray, .int .u64 (a0.getD 3 0), .int .u64 (x5.getD 2 0)] rfl (by kernel_rfl) (args3 (hF.2.1.1.1.1.1 hL15) hF.1.2.2.2.1.1.1.1.2.1.1.2 hF.1.2.2.2.1.1.1.1.2.1.2.1) (field_wide_add_ok r8 (a0.getD 3 0) (x5.getD 2 0) lr80 _ (hp.toR (fun _ h => by cases h)) qr9) ?_
      rintro _ w' ⟨_, rfl, rfl, lr90, hpc⟩
      refine ⟨_, rfl, .inr (.of_below hpc.chg.to_below), ?_⟩; have hp := hp.below hpc.chg.to_below; clear hpc
      exact k_done ⟨g31, c_g31_0, ⟨⟨⟨⟨⟨hF.1.1.1.1.1, ⟨hF.1.1.1.1.2.1, (fun _ => lr90)⟩⟩, hF.1.1.1.2⟩, hF.1.1.2⟩, hF.1.2⟩, ⟨⟨⟨⟨⟨hF.2.1.1.1.1.1, (fun _ => rfl)⟩, hF.2.1.1.1.2⟩, hF.2.1.1.2⟩, hF.2.1.2⟩, hF.2.2⟩⟩, hp⟩
    refine allU_cons ?_ ?_
    · rintro L e w hLi hb hcl ⟨g31, c_g31_0, hF, hp⟩
      have hL20 := hb 20 (by kernel_rfl)
      have lr90 := hF.1.1.1.1.2.2 hL20
      refine k_call [.agg (ints .u64 r9).toArray, .int .u64 (a0.getD 4 0), .int .u64 (x5.getD 1 0)] rfl (by kernel_rfl) (args3 (hF.2.1.1.1.1.2 hL20) hF.1.2.2.2.1.1.1.1.2.1.2.2 hF.1.2.2.2.1.1.1.1.2.2.1.1) (field_wide_add_ok r9 (a0.getD 4 0) (x5.getD 1 0) lr90 _ (hp.toR (fun _ h => by cases h)) qr10) ?_
      rintro _ w' ⟨_, rfl, rfl, lr100, hpc⟩
      refine ⟨_, rfl, .inr (.of_below hpc.chg.to_below), ?_⟩; have hp := hp.below hpc.chg.to_below; clear hpc
      exact k_done ⟨g31, c_g31_0, ⟨⟨⟨⟨hF.1.1.1.1, ⟨⟨(fun _ => lr100), hF.1.1.1.2.1.2⟩, hF.1.1.1.2.2⟩⟩, hF.1.1.2⟩, hF.1.2⟩, ⟨⟨⟨⟨hF.2.1.1.1.1, ⟨(fun _ => rfl), hF.2.1.1.1.2.2⟩⟩, hF.2.1.1.2⟩, hF.2.1.2⟩, hF.2.2⟩⟩, hp⟩
    refine allU_cons ?_ ?_
    · rintro L e w hLi hb hcl ⟨g31, c_g31_0, hF, hp⟩
      refine k_call [.agg (ints .u64 (List.replicate 2 (0 : Int))).toArray, .int .u64 (a0.getD 0 0), .int .u64 (a1.getD 1 0)] rfl (by kernel_rfl) (args3 hF.1.2.2.2.1.1.1.1.2.2.1.2 hF.1.2.2.2.1.1.1.1.2.2.2 hF.1.2.2.2.1.1.1.2.1.1.1.1) (field_wide_add_ok (List.replicate 2 (0 : Int)) (a0.getD 0 0) (a1.getD 1 0) List.length_replicate _ (hp.toR (fun _ h => by cases h)) qr11) ?_
      rintro _ w' ⟨_, rfl, rfl, lr110, hpc⟩
      refine ⟨_, rfl, .inr (.of_below hpc.chg.to_below), ?_⟩; have hp := hp.below hpc.chg.to_below; clear hpc
      exact k_done ⟨g31, c_g31_0, ⟨⟨⟨⟨hF.1.1.1.1, ⟨⟨hF.1.1.1.2.1.1, (fun _ => lr110)⟩, hF.1.1.1.2.2⟩⟩, hF.1.1.2⟩, hF.1.2⟩, ⟨⟨⟨⟨hF.2.1.1.1.1, ⟨hF.2.1.1.1.2.1, (fun _ => rfl)⟩⟩, hF.2.1.1.2⟩, hF.2.1.2⟩, hF.2.2⟩⟩, hp⟩
    refine allU_cons ?_ ?_
    · rintro L e w hLi hb hcl ⟨g31, c_g31_0, hF, hp⟩
      have hL31 := hb 31 (by kernel_rfl)
      have lr110 := hF.1.1.1.2.1.2 hL31
      refine k_call [.agg (ints .u64 r11).toArray, .int .u64 (a0.getD 1 0), .int .u64 (a1.getD 0 0)] rfl (by kernel_rfl) (args3 (hF.2.1.1.1.2.2 hL31) hF.1.2.2.2.1.1.1.2.1.1.1.2 hF.1.2.2.2.1.1.1.2.1.1.2.1) (field_wide_add_ok r11 (a0.getD 1 0) (a1.getD 0 0) lr110 _ (hp.toR (fun _ h => by cases h)) qr12) ?_
      rintro _ w' ⟨_, rfl, rfl, lr120, hpc⟩
      refine ⟨_, rfl, .inr (.of_below hpc.chg.to_below), ?_⟩; have hp := hp.below hpc.chg.to_below; clear hpc
      exact k_done ⟨g31, c_g31_0, ⟨⟨⟨⟨hF.1.1.1.1, ⟨hF.1.1.1.2.1, (fun _ => lr120)⟩⟩, hF.1.1.2⟩, hF.1.2⟩, ⟨⟨⟨hF.2.1.1.1, ⟨⟨(fun _ => rfl), hF.2.1.1.2.1.2⟩, hF.2.1.1.2.2⟩⟩, hF.2.1.2⟩, hF.2.2⟩⟩, hp⟩
    refine allU_cons ?_ ?_
    · rintro L e w hLi hb hcl ⟨g31, c_g31_0, hF, hp⟩
      have hL36 := hb 36 (by kernel_rfl)
      have lr120 := hF.1.1.1.2.2 hL36
      refine k_call [.agg (ints .u64 r12).toArray, .int .u64 (a0.getD 2 0), .int .u64 (x5.getD 4 0)] rfl (by kernel_rfl) (args3 (hF.2.1.1.2.1.1 hL36) hF.1.2.2.2.1.1.1.2.1.1.2.2 hF.1.2.2.2.1.1.1.2.1.2.1.1) (field_wide_add_ok r12 (a0.getD 2 0) (x5.getD 4 0) lr120 _ (hp.toR (fun _ h => by cases h)) qr13) ?_
      rintro _ w' ⟨_, rfl, rfl, lr130, hpc⟩
      refine ⟨_, rfl, .inr (.of_below hpc.chg.to_below), ?_⟩; have hp := hp.below hpc.chg.to_below; clear hpc
      exact k_done ⟨g31, c_g31_0, ⟨⟨⟨hF.1.1.1, ⟨⟨⟨(fun _ => lr130), hF.1.1.2.1.1.2⟩, hF.1.1.2.1.2⟩, hF.1.1.2.2⟩⟩, hF.1.2⟩, ⟨⟨⟨hF.2.1.1.1, ⟨⟨hF.2.1.1.2.1.1, (fun _ => rfl)⟩, hF.2.1.1.2.2⟩⟩, hF.2.1.2⟩, hF.2.2⟩⟩, hp⟩
    refine allU_cons ?_ ?_
    · rintro L e w hLi hb hcl ⟨g31, c_g31_0, hF, hp⟩
      have hL41 := hb 41 (by kernel_rfl)
      have lr130 := hF.1.1.2.1.1.1 hL41
      refine k_call [.agg (ints .u64 r13).toArray, .int .u64 (a0.getD 3 0), .int .u64 (x5.getD 3 0)] rfl (by kernel_rfl) (args3 (hF.2.1.1.2.1.2 hL41) hF.1.2.2.2.1.1.1.2.1.2.1.2 hF.1.2.2.2.1.1.1.2.1.2.2) (field_wide_add_ok r13 (a0.getD 3 0) (x5.getD 3 0) lr130 _ (hp.toR (fun _ h => by cases h)) qr14) ?_
      rintro _ w' ⟨_, rfl, rfl, lr140, hpc⟩
      refine ⟨_, rfl, .inr (.of_below hpc.chg.to_below), ?_⟩; have hp := hp.below hpc.chg.to_below; clear hpc
      exact k_done ⟨g31, c_g31_0, ⟨⟨⟨hF.1.1.1, ⟨⟨⟨hF.1.1.2.1.1.1, (fun _ => lr140)⟩, hF.1.1.2.1.2⟩, hF.1.1.2.2⟩⟩, hF.1.2⟩, ⟨⟨⟨hF.2.1.1.1, ⟨hF.2.1.1.2.1, (fun _ => rfl)⟩⟩, hF.2.1.2⟩, hF.2.2⟩⟩, hp⟩
    refine allU_cons ?_ ?_
    · rintro L e w hLi hb hcl ⟨g31, c_g31_0, hF, hp⟩
      have hL46 := hb 46 (by kernel_rfl)
      have lr140 := hF.1.1.2.1.1.2 hL46
      refine k_call [.agg (ints .u64 r14).toArray, .int .u64 (a0.getD 4 0), .int .u64 (x5.getD 2 0)] rfl (by kernel_rfl) (args3 (hF.2.1.1.2.2 hL46) hF.1.2.2.2.1.1.1.2.2.1.1.1 hF.1.2.2.2.1.1.1.2.2.1.1.2) (field_wide_add_ok r14 (a0.getD 4 0) (x5.getD 2 0) lr140 _ (hp.toR (fun _ h => by cases h)) qr15) ?_
      rintro _ w' ⟨_, rfl, rfl, lr150, hpc⟩
      refine ⟨_, rfl, .inr (.of_below hpc.chg.to_below), ?_⟩; have hp := hp.below hpc.chg.to_below; clear hpc
      exact k_done ⟨g31, c_g31_0, ⟨⟨⟨hF.1.1.1, ⟨⟨hF.1.1.2.1.1, ⟨(fun _ => lr150), hF.1.1.2.1.2.2⟩⟩, hF.1.1.2.2⟩⟩, hF.1.2⟩, ⟨⟨hF.2.1.1, ⟨⟨⟨(fun _ => rfl), hF.2.1.2.1.1.2⟩, hF.2.1.2.1.2⟩, hF.2.1.2.2⟩⟩, hF.2.2⟩⟩, hp⟩
    refine allU_cons ?_ ?_
    · rintro L e w hLi hb hcl ⟨g31, c_g31_0, hF, hp⟩
      refine k_call [.agg (ints .u64 (List.replicate 2 (0 : Int))).toArray, .int .u64 (a0.getD 0 0), .int .u64 (a1.getD 2 0)] rfl (by kernel_rfl) (args3 hF.1.2.2.2.1.1.1.2.2.1.2.1 hF.1.2.2.2.1.1.1.2.2.1.2.2 hF.1.2.2.2.1.1.1.2.2.2.1.1) (field_wide_add_ok (List.replicate 2 (0 : Int)) (a0.getD 0 0) (a1.getD 2 0) List.length_replicate _ (hp.toR (fun _ h => by cases h)) qr16) ?_
      rintro _ w' ⟨_, rfl, rfl, lr160, hpc⟩
      refine ⟨_, rfl, .inr (.of_below hpc.chg.to_below), ?_⟩; have hp := hp.below hpc.chg.to_below; clear hpc
      exact k_done ⟨g31, c_g31_0, ⟨⟨⟨hF.1.1.1, ⟨⟨hF.1.1.2.1.1, ⟨hF.1.1.2.1.2.1, (fun _ => lr160)⟩⟩, hF.1.1.2.2⟩⟩, hF.1.2⟩, ⟨⟨hF.2.1.1, ⟨⟨⟨hF.2.1.2.1.1.1, (fun _ => rfl)⟩, hF.2.1.2.1.2⟩, hF.2.1.2.2⟩⟩, hF.2.2⟩⟩, hp⟩
    refine allU_cons ?_ ?_
    · rintro L e w hLi hb hcl ⟨g31, c_g31_0, hF, hp⟩
      have hL57 := hb 57 (by kernel_rfl)
      have lr160 := hF.1.1.2.1.2.2 hL57
      refine k_call [.agg (ints .u64 r16).toArray, .int .u64 (a0.getD 1 0), .int .u64 (a1.getD 1 0)] rfl (by kernel_rfl) (args3 (hF.2.1.2.1.1.2 hL57) hF.1.2.2.2.1.1.1.2.2.2.1.2 hF.1.2.2.2.1.1.1.2.2.2.2) (field_wide_add_ok r16 (a0.getD 1 0) (a1.getD 1 0) lr160 _ (hp.toR (fun _ h => by cases h)) qr17) ?_
      rintro _ w' ⟨_, rfl, rfl, lr170, hpc⟩
      refine ⟨_, rfl, .inr (.of_below hpc.chg.to_below), ?_⟩; have hp := hp.below hpc.chg.to_below; clear hpc
      exact k_done ⟨g31, c_g31_0, ⟨⟨⟨hF.1.1.1, ⟨hF.1.1.2.1, ⟨⟨(fun _ => lr170), hF.1.1.2.2.1.2⟩, hF.1.1.2.2.2⟩⟩⟩, hF.1.2⟩, ⟨⟨hF.2.1.1, ⟨⟨hF.2.1.2.1.1, ⟨(fun _ => rfl), hF.2.1.2.1.2.2⟩⟩, hF.2.1.2.2⟩⟩, hF.2.2⟩⟩, hp⟩
    refine allU_cons ?_ ?_
    · rintro L e w hLi hb hcl ⟨g31, c_g31_0, hF, hp⟩
      have hL62 := hb 62 (by kernel_rfl)
      have lr170 := hF.1.1.2.2.1.1 hL62
      refine k_call [.agg (ints .u64 r17).toArray, .int .u64 (a0.getD 2 0), .int .u64 (a1.getD 0 0)] rfl (by kernel_rfl) (args3 (hF.2.1.2.1.2.1 hL62) hF.1.2.2.2.1.1.2.1.1.1.1.1 hF.1.2.2.2.1.1.2.1.1.1.1.2) (field_wide_add_ok r17 (a0.getD 2 0) (a1.getD 0 0) lr170 _ (hp.toR (fun _ h => by cases h)) qr18) ?_
      rintro _ w' ⟨_, rfl, rfl, lr180, hpc⟩
      refine ⟨_, rfl, .inr (.of_below hpc.chg.to_below), ?_⟩; have hp := hp.below hpc.chg.to_below; clear hpc
      exact k_done ⟨g31, c_g31_0, ⟨⟨⟨hF.1.1.1, ⟨hF.1.1.2.1, ⟨⟨hF.1.1.2.2.1.1, (fun _ => lr180)⟩, hF.1.1.2.2.2⟩⟩⟩, hF.1.2⟩, ⟨⟨hF.2.1.1, ⟨⟨hF.2.1.2.1.1, ⟨hF.2.1.2.1.2.1, (fun _ => rfl)⟩⟩, hF.2.1.2.2⟩⟩, hF.2.2⟩⟩, hp⟩
    refine allU_cons ?_ ?_
    · rintro L e w hLi hb hcl ⟨g31, c_g31_0, hF, hp⟩
      have hL67 := hb 67 (by kernel_rfl)
      have lr180 := hF.1.1.2.2.1.2 hL67
      refine k_call [.agg (ints .u64 r18).toArray, .int .u64 (a0.getD 3 0), .int .u64 (x5.getD 4 0)] rfl (by kernel_rfl) (args3 (hF.2.1.2.1.2.2 hL67) hF.1.2.2.2.1.1.2.1.1.1.2.1 hF.1.2.2.2.1.1.2.1.1.1.2.2) (field_wide_add_ok r18 (a0.getD 3 0) (x5.getD 4 0) lr180 _ (hp.toR (fun _ h => by cases h)) qr19) ?_
      rintro _ w' ⟨_, rfl, rfl, lr190, hpc⟩
      refine ⟨_, rfl, .inr (.of_below hpc.chg.to_below), ?_⟩; have hp := hp.below hpc.chg.to_below; clear hpc
      exact k_done ⟨g31, c_g31_0, ⟨⟨⟨hF.1.1.1, ⟨hF.1.1.2.1, ⟨hF.1.1.2.2.1, (fun _ => lr190)⟩⟩⟩, hF.1.2⟩, ⟨⟨hF.2.1.1, ⟨hF.2.1.2.1, ⟨⟨(fun _ => rfl), hF.2.1.2.2.1.2⟩, hF.2.1.2.2.2⟩⟩⟩, hF.2.2⟩⟩, hp⟩
    refine allU_cons ?_ ?_
    · rintro L e w hLi hb hcl ⟨g31, c_g31_0, hF, hp⟩
      have hL72 := hb 72 (by kernel_rfl)
      have lr190 := hF.1.1.2.2.2 hL72
      refine k_call [.agg (ints .u64 r19).toArray, .int .u64 (a0.getD 4 0), .int .u64 (x5.getD 3 0)] rfl (by kernel_rfl) (args3 (hF.2.1.2.2.1.1 hL72) hF.1.2.2.2.1.1.2.1.1.2.1.1 hF.1.2.2.2.1.1.2.1.1.2.1.2) (field_wide_add_ok r19 (a0.getD 4 0) (x5.getD 3 0) lr190 _ (hp.toR (fun _ h => by cases h)) qr20) ?_
      rintro _ w' ⟨_, rfl, rfl, lr200, hpc⟩
      refine ⟨_, rfl, .inr (.of_below hpc.chg.to_below), ?_⟩; have hp := hp.below hpc.chg.to_below; clear hpc
      exact k_done ⟨g31, c_g31_0, ⟨⟨hF.1.1, ⟨⟨⟨⟨(fun _ => lr200), hF.1.2.1.1.1.2⟩, hF.1.2.1.1.2⟩, hF.1.2.1.2⟩, hF.1.2.2⟩⟩, ⟨⟨hF.2.1.1, ⟨hF.2.1.2.1, ⟨⟨hF.2.1.2.2.1.1, (fun _ => rfl)⟩, hF.2.1.2.2.2⟩⟩⟩, hF.2.2⟩⟩, hp⟩
    refine allU_cons ?_ ?_
    · rintro L e w hLi hb hcl ⟨g31, c_g31_0, hF, hp⟩
      refine k_call [.agg (ints .u64 (List.replicate 2 (0 : Int))).toArray, .int .u64 (a0.getD 0 0), .int .u64 (a1.getD 3 0)] rfl (by kernel_rfl) (args3 hF.1.2.2.2.1.1.2.1.1.2.2 hF.1.2.2.2.1.1.2.1.2.1.1.1 hF.1.2.2.2.1.1.2.1.2.1.1.2) (field_wide_add_ok (List.replicate 2 (0 : Int)) (a0.getD 0 0) (a1.getD 3 0) List.length_replicate _ (hp.toR (fun _ h => by cases h)) qr21) ?_
      rintro _ w' ⟨_, rfl, rfl, lr210, hpc⟩
      refine ⟨_, rfl, .inr (.of_below hpc.chg.to_below), ?_⟩; have hp := hp.below hpc.chg.to_below; clear hpc
      exact k_done ⟨g31, c_g31_0, ⟨⟨hF.1.1, ⟨⟨⟨⟨hF.1.2.1.1.1.1, (fun _ => lr210)⟩, hF.1.2.1.1.2⟩, hF.1.2.1.2⟩, hF.1.2.2⟩⟩, ⟨⟨hF.2.1.1, ⟨hF.2.1.2.1, ⟨hF.2.1.2.2.1, (fun _ => rfl)⟩⟩⟩, hF.2.2⟩⟩, hp⟩
    refine allU_cons ?_ ?_
    · rintro L e w hLi hb hcl ⟨g31, c_g31_0, hF, hp⟩
      have hL83 := hb 83 (by kernel_rfl)
      have lr210 := hF.1.2.1.1.1.2 hL83
      refine k_call [.agg (ints .u64 r21).toArray, .int .u64 (a0.getD 1 0), .int .u64 (a1.getD 2 0)] rfl (by kernel_rfl) (args3 (hF.2.1.2.2.2 hL83) hF.1.2.2.2.1.1.2.1.2.1.2.1 hF.1.2.2.2.1.1.2.1.2.1.2.2) (field_wide_add_ok r21 (a0.getD 1 0) (a1.getD 2 0) lr210 _ (hp.toR (fun _ h => by cases h)) qr22) ?_
      rintro _ w' ⟨_, rfl, rfl, lr220, hpc⟩
      refine ⟨_, rfl, .inr (.of_below hpc.chg.to_below), ?_⟩; have hp := hp.below hpc.chg.to_below; clear hpc
      exact k_done ⟨g31, c_g31_0, ⟨⟨hF.1.1, ⟨⟨⟨hF.1.2.1.1.1, ⟨(fun _ => lr220), hF.1.2.1.1.2.2⟩⟩, hF.1.2.1.2⟩, hF.1.2.2⟩⟩, ⟨hF.2.1, ⟨⟨⟨⟨(fun _ => rfl), hF.2.2.1.1.1.2⟩, hF.2.2.1.1.2⟩, hF.2.2.1.2⟩, hF.2.2.2⟩⟩⟩, hp⟩
    refine allU_cons ?_ ?_
    · rintro L e w hLi hb hcl ⟨g31, c_g31_0, hF, hp⟩
      have hL88 := hb 88 (by kernel_rfl)
      have lr220 := hF.1.2.1.1.2.1 hL88
      refine k_call [.agg (ints .u64 r22).toArray, .int .u64 (a0.getD 2 0), .int .u64 (a1.getD 1 0)] rfl (by kernel_rfl) (args3 (hF.2.2.1.1.1.1 hL88) hF.1.2.2.2.1.1.2.1.2.2.1.1 hF.1.2.2.2.1.1.2.1.2.2.1.2) (field_wide_add_ok r22 (a0.getD 2 0) (a1.getD 1 0) lr220 _ (hp.toR (fun _ h => by cases h)) qr23) ?_
      rintro _ w' ⟨_, rfl, rfl, lr230, hpc⟩
      refine ⟨_, rfl, .inr (.of_below hpc.chg.to_below), ?_⟩; have hp := hp.below hpc.chg.to_below; clear hpc
      exact k_done ⟨g31, c_g31_0, ⟨⟨hF.1.1, ⟨⟨⟨hF.1.2.1.1.1, ⟨hF.1.2.1.1.2.1, (fun _ => lr230)⟩⟩, hF.1.2.1.2⟩, hF.1.2.2⟩⟩, ⟨hF.2.1, ⟨⟨⟨⟨hF.2.2.1.1.1.1, (fun _ => rfl)⟩, hF.2.2.1.1.2⟩, hF.2.2.1.2⟩, hF.2.2.2⟩⟩⟩, hp⟩
    refine allU_cons ?_ ?_
    · rintro L e w hLi hb hcl ⟨g31, c_g31_0, hF, hp⟩
      have hL93 := hb 93 (by kernel_rfl)
      have lr230 := hF.1.2.1.1.2.2 hL93
      refine k_call [.agg (ints .u64 r23).toArray, .int .u64 (a0.getD 3 0), .int .u64 (a1.getD 0 0)] rfl (by kernel_rfl) (args3 (hF.2.2.1.1.1.2 hL93) hF.1.2.2.2.1.1.2.1.2.2.2 hF.1.2.2.2.1.1.2.2.1.1.1.1) (field_wide_add_ok r23 (a0.getD 3 0) (a1.getD 0 0) lr230 _ (hp.toR (fun _ h => by cases h)) qr24) ?_
      rintro _ w' ⟨_, rfl, rfl, lr240, hpc⟩
      refine ⟨_, rfl, .inr (.of_below hpc.chg.to_below), ?_⟩; have hp := hp.below hpc.chg.to_below; clear hpc
      exact k_done ⟨g31, c_g31_0, ⟨⟨hF.1.1, ⟨⟨hF.1.2.1.1, ⟨⟨(fun _ => lr240), hF.1.2.1.2.1.2⟩, hF.1.2.1.2.2⟩⟩, hF.1.2.2⟩⟩, ⟨hF.2.1, ⟨⟨⟨hF.2.2.1.1.1, ⟨(fun _ => rfl), hF.2.2.1.1.2.2⟩⟩, hF.2.2.1.2⟩, hF.2.2.2⟩⟩⟩, hp⟩
    refine allU_cons ?_ ?_
    · rintro L e w hLi hb hcl ⟨g31, c_g31_0, hF, hp⟩
      have hL98 := hb 98 (by kernel_rfl)
      have lr240 := hF.1.2.1.2.1.1 hL98
      refine k_call [.agg (ints .u64 r24).toArray, .int .u64 (a0.getD 4 0), .int .u64 (x5.getD 4 0)] rfl (by kernel_rfl) (args3 (hF.2.2.1.1.2.1 hL98) hF.1.2.2.2.1.1.2.2.1.1.1.2 hF.1.2.2.2.1.1.2.2.1.1.2.1) (field_wide_add_ok r24 (a0.getD 4 0) (x5.getD 4 0) lr240 _ (hp.toR (fun _ h => by cases h)) qr25) ?_
      rintro _ w' ⟨_, rfl, rfl, lr250, hpc⟩
      refine ⟨_, rfl, .inr (.of_below hpc.chg.to_below), ?_⟩; have hp := hp.below hpc.chg.to_below; clear hpc
      exact k_done ⟨g31, c_g31_0, ⟨⟨hF.1.1, ⟨⟨hF.1.2.1.1, ⟨⟨hF.1.2.1.2.1.1, (fun _ => lr250)⟩, hF.1.2.1.2.2⟩⟩, hF.1.2.2⟩⟩, ⟨hF.2.1, ⟨⟨⟨hF.2.2.1.1.1, ⟨hF.2.2.1.1.2.1, (fun _ => rfl)⟩⟩, hF.2.2.1.2⟩, hF.2.2.2⟩⟩⟩, hp⟩
    refine allU_cons ?_ ?_
    · rintro L e w hLi hb hcl ⟨g31, c_g31_0, hF, hp⟩
      refine k_call [.agg (ints .u64 (List.replicate 2 (0 : Int))).toArray, .int .u64 (a0.getD 0 0), .int .u64 (a1.getD 4 0)] rfl (by kernel_rfl) (args3 hF.1.2.2.2.1.1.2.2.1.1.2.2 hF.1.2.2.2.1.1.2.2.1.2.1.1 hF.1.2.2.2.1.1.2.2.1.2.1.2) (field_wide_add_ok (List.replicate 2 (0 : Int)) (a0.getD 0 0) (a1.getD 4 0) List.length_replicate _ (hp.toR (fun _ h => by cases h)) qr26) ?_
      rintro _ w' ⟨_, rfl, rfl, lr260, hpc⟩
      refine ⟨_, rfl, .inr (.of_below hpc.chg.to_below), ?_⟩; have hp := hp.below hpc.chg.to_below; clear hpc
      exact k_done ⟨g31, c_g31_0, ⟨⟨hF.1.1, ⟨⟨hF.1.2.1.1, ⟨hF.1.2.1.2.1, (fun _ => lr260)⟩⟩, hF.1.2.2⟩⟩, ⟨hF.2.1, ⟨⟨hF.2.2.1.1, ⟨⟨(fun _ => rfl), hF.2.2.1.2.1.2⟩, hF.2.2.1.2.2⟩⟩, hF.2.2.2⟩⟩⟩, hp⟩
    refine allU_cons ?_ ?_
    · rintro L e w hLi hb hcl ⟨g31, c_g31_0, hF, hp⟩
      have hL109 := hb 109 (by kernel_rfl)
      have lr260 := hF.1.2.1.2.2 hL109
      refine k_call [.agg (ints .u64 r26).toArray, .int .u64 (a0.getD 1 0), .int .u64 (a1.getD 3 0)] rfl (by kernel_rfl) (args3 (hF.2.2.1.2.1.1 hL109) hF.1.2.2.2.1.1.2.2.1.2.2 hF.1.2.2.2.1.1.2.2.2.1.1.1) (field_wide_add_ok r26 (a0.getD 1 0) (a1.getD 3 0) lr260 _ (hp.toR (fun _ h => by cases h)) qr27) ?_
      rintro _ w' ⟨_, rfl, rfl, lr270, hpc⟩
      refine ⟨_, rfl, .inr (.of_below hpc.chg.to_below), ?_⟩; have hp := hp.below hpc.chg.to_below; clear hpc
      exact k_done ⟨g31, c_g31_0, ⟨⟨hF.1.1, ⟨hF.1.2.1, ⟨⟨⟨(fun _ => lr270), hF.1.2.2.1.1.2⟩, hF.1.2.2.1.2⟩, hF.1.2.2.2⟩⟩⟩, ⟨hF.2.1, ⟨⟨hF.2.2.1.1, ⟨⟨hF.2.2.1.2.1.1, (fun _ => rfl)⟩, hF.2.2.1.2.2⟩⟩, hF.2.2.2⟩⟩⟩, hp⟩
    refine allU_cons ?_ ?_
    · rintro L e w hLi hb hcl ⟨g31, c_g31_0, hF, hp⟩
      have hL114 := hb 114 (by kernel_rfl)
      have lr270 := hF.1.2.2.1.1.1 hL114
      refine k_call [.agg (ints .u64 r27).toArray, .int .u64 (a0.getD 2 0), .int .u64 (a1.getD 2 0)] rfl (by kernel_rfl) (args3 (hF.2.2.1.2.1.2 hL114) hF.1.2.2.2.1.1.2.2.2.1.1.2 hF.1.2.2.2.1.1.2.2.2.1.2.1) (field_wide_add_ok r27 (a0.getD 2 0) (a1.getD 2 0) lr270 _ (hp.toR (fun _ h => by cases h)) qr28) ?_
      rintro _ w' ⟨_, rfl, rfl, lr280, hpc⟩
      refine ⟨_, rfl, .inr (.of_below hpc.chg.to_below), ?_⟩; have hp := hp.below hpc.chg.to_below; clear hpc
      exact k_done ⟨g31, c_g31_0, ⟨⟨hF.1.1, ⟨hF.1.2.1, ⟨⟨⟨hF.1.2.2.1.1.1, (fun _ => lr280)⟩, hF.1.2.2.1.2⟩, hF.1.2.2.2⟩⟩⟩, ⟨hF.2.1, ⟨⟨hF.2.2.1.1, ⟨hF.2.2.1.2.1, (fun _ => rfl)⟩⟩, hF.2.2.2⟩⟩⟩, hp⟩
    refine allU_cons ?_ ?_
    · rintro L e w hLi hb hcl ⟨g31, c_g31_0, hF, hp⟩
      have hL119 := hb 119 (by kernel_rfl)
      have lr280 := hF.1.2.2.1.1.2 hL119
      refine k_call [.agg (ints .u64 r28).toArray, .int .u64 (a0.getD 3 0), .int .u64 (a1.getD 1 0)] rfl (by kernel_rfl) (args3 (hF.2.2.1.2.2 hL119) hF.1.2.2.2.1.1.2.2.2.1.2.2 hF.1.2.2.2.1.1.2.2.2.2.1.1) (field_wide_add_ok r28 (a0.getD 3 0) (a1.getD 1 0) lr280 _ (hp.toR (fun _ h => by cases h)) qr29) ?_
      rintro _ w' ⟨_, rfl, rfl, lr290, hpc⟩
      refine ⟨_, rfl, .inr (.of_below hpc.chg.to_below), ?_⟩; have hp := hp.below hpc.chg.to_below; clear hpc
      exact k_done ⟨g31, c_g31_0, ⟨⟨hF.1.1, ⟨hF.1.2.1, ⟨⟨hF.1.2.2.1.1, ⟨(fun _ => lr290), hF.1.2.2.1.2.2⟩⟩, hF.1.2.2.2⟩⟩⟩, ⟨hF.2.1, ⟨hF.2.2.1, ⟨⟨⟨(fun _ => rfl), hF.2.2.2.1.1.2⟩, hF.2.2.2.1.2⟩, hF.2.2.2.2⟩⟩⟩⟩, hp⟩
    refine allU_cons ?_ ?_
    · rintro L e w hLi hb hcl ⟨g31, c_g31_0, hF, hp⟩
      have hL124 := hb 124 (by kernel_rfl)
      have lr290 := hF.1.2.2.1.2.1 hL124
      refine k_call [.agg (ints .u64 r29).toArray, .int .u64 (a0.getD 4 0), .int .u64 (a1.getD 0 0)] rfl (by kernel_rfl) (args3 (hF.2.2.2.1.1.1 hL124) hF.1.2.2.2.1.1.2.2.2.2.1.2 hF.1.2.2.2.1.1.2.2.2.2.2) (field_wide_add_ok r29 (a0.getD 4 0) (a1.getD 0 0) lr290 _ (hp.toR (fun _ h => by cases h)) qr30) ?_
      rintro _ w' ⟨_, rfl, rfl, lr300, hpc⟩
      refine ⟨_, rfl, .inr (.of_below hpc.chg.to_below), ?_⟩; have hp := hp.below hpc.chg.to_below; clear hpc
      exact k_done ⟨g31, c_g31_0, ⟨⟨hF.1.1, ⟨hF.1.2.1, ⟨⟨hF.1.2.2.1.1, ⟨hF.1.2.2.1.2.1, (fun _ => lr300)⟩⟩, hF.1.2.2.2⟩⟩⟩, ⟨hF.2.1, ⟨hF.2.2.1, ⟨⟨⟨hF.2.2.2.1.1.1, (fun _ => rfl)⟩, hF.2.2.2.1.2⟩, hF.2.2.2.2⟩⟩⟩⟩, hp⟩
    refine allU_cons ?_ ?_
    · rintro L e w hLi hb hcl ⟨g31, c_g31_0, hF, hp⟩
      have hL25 := hb 25 (by kernel_rfl)
      have hL51 := hb 51 (by kernel_rfl)
      have hL77 := hb 77 (by kernel_rfl)
      have hL103 := hb 103 (by kernel_rfl)
      have hL129 := hb 129 (by kernel_rfl)
      have lr100 := hF.1.1.1.2.1.1 hL25
      have lr150 := hF.1.1.2.1.2.1 hL51
      have lr200 := hF.1.2.1.1.1.1 hL77
      have lr250 := hF.1.2.1.2.1.2 hL103
      have lr300 := hF.1.2.2.1.2.2 hL129
      refine tp_ef ?_
      refine k_buildP (v := .agg (ints .u64 (r10 ++ r15 ++ r20 ++ r25 ++ r30)).toArray) [(0, .agg (ints .u64 r10).toArray), (1, .agg (ints .u64 r15).toArray), (2, .agg (ints .u64 r20).toArray), (3, .agg (ints .u64 r25).toArray), (4, .agg (ints .u64 r30).toArray)] rfl (pcons (hF.2.1.1.1.2.1 hL25) (pcons (hF.2.1.2.1.1.1 hL51) (pcons (hF.2.1.2.2.1.2 hL77) (pcons (hF.2.2.1.1.2.2 hL103) (pcons (hF.2.2.2.1.1.2 hL129) pnil))))) (fun _ => by rw [lst r10 lr100, lst r15 lr150, lst r20 lr200, lst r25 lr250, lst r30 lr300]; kernel_rfl) ?_
      exact k_done ⟨g31, c_g31_0, ⟨hF.1, ⟨hF.2.1, ⟨hF.2.2.1, ⟨⟨hF.2.2.2.1.1, ⟨(fun _ => rfl), hF.2.2.2.1.2.2⟩⟩, hF.2.2.2.2⟩⟩⟩⟩, hp⟩
    refine allU_cons ?_ ?_
    · rintro L e w hLi hb hcl ⟨g31, c_g31_0, hF, hp⟩
      have qc_g31_0 := hF.2.2.2.2.1.1 hLi
      rw [qc_g31_0] at hp
      refine k_allocAt 4 (ints .u64 (List.replicate 10 (0 : Int))) rfl (by kernel_rfl) hp ?_
      intro g31 w hbg31 hp
      exact k_done ⟨g31, (List.replicate 10 (0 : Int)), ⟨hF.1, ⟨hF.2.1, ⟨hF.2.2.1, ⟨⟨hF.2.2.2.1.1, ⟨hF.2.2.2.1.2.1, (fun _ => rfl)⟩⟩, ⟨⟨(fun h => nomatch (show true = false from h)), (fun _ _ => rfl)⟩, (fun h => absurd (hLi.symm.trans (hcl 132 131 (by kernel_rfl) h)) (by decide))⟩⟩⟩⟩⟩, hp⟩
    refine allU_cons ?_ allU_nil
    · rintro L e w hLi hb hcl ⟨g31, c_g31_0, hF, hp⟩
      have hL25 := hb 25 (by kernel_rfl)
      have hL51 := hb 51 (by kernel_rfl)
      have hL77 := hb 77 (by kernel_rfl)
      have hL103 := hb 103 (by kernel_rfl)
      have hL129 := hb 129 (by kernel_rfl)
      have hL130 := hb 130 (by kernel_rfl)
      have hL131 := hb 131 (by kernel_rfl)
      have lr100 := hF.1.1.1.2.1.1 hL25
      have lr150 := hF.1.1.2.1.2.1 hL51
      have lr200 := hF.1.2.1.1.1.1 hL77
      have lr250 := hF.1.2.1.2.1.2 hL103
      have lr300 := hF.1.2.2.1.2.2 hL129
      have qc_g31_0 := hF.2.2.2.2.1.2 hLi hL131
      rw [qc_g31_0] at hp
      refine k_storeA (v := .agg (ints .u64 (r10 ++ r15 ++ r20 ++ r25 ++ r30)).toArray) 4 0 (r := ⟨g31, 0, ints .u64 (List.replicate 10 (0 : Int))⟩) (ints .u64 (r10 ++ r15 ++ r20 ++ r25 ++ r30)) (ints .u64 (r10 ++ r15 ++ r20 ++ r25 ++ r30)) rfl (n := 10) (by kernel_rfl) (hF.2.2.2.1.2.2 hL131) (hF.2.2.2.1.2.1 hL130) rfl ((ints_length _ _).trans (show List.length ((r10 ++ r15 ++ r20 ++ r25 ++ r30) : List Int) = 10 by simp [lr100, lr150, lr200, lr250, lr300])) (ints_one _ _) hp rfl rfl rfl (Nat.le_of_eq ((Nat.zero_add _).trans ((ints_length _ _).trans List.length_replicate).symm)) (setMany_all _ _ (((ints_length _ _).trans (show List.length ((r10 ++ r15 ++ r20 ++ r25 ++ r30) : List Int) = 10 by simp [lr100, lr150, lr200, lr250, lr300])).trans ((ints_length _ _).trans List.length_replicate).symm)) (by decide) ?_; intro w hp
      exact k_done ⟨g31, (r10 ++ r15 ++ r20 ++ r25 ++ r30), ⟨hF.1, ⟨hF.2.1, ⟨hF.2.2.1, ⟨hF.2.2.2.1, ⟨⟨(fun h => absurd (hL131.symm.trans h) (by decide)), (fun h _ => nomatch (show true = false from h))⟩, (fun _ => rfl)⟩⟩⟩⟩⟩, hp⟩
  rintro e26 w ⟨g31, hF, hp⟩
  have lr100 := hF.1.1.1
  have lr150 := hF.1.1.2
  have lr200 := hF.1.2.1
  have lr250 := hF.1.2.2
  have lr300 := hF.2.1.1
  have s4_e26 := hF.2.1.2
  have s6_e26 := hF.2.2
  clear hF
  refine wseqP (p0 := [1, 1, 1, 0]) (p1 := [1, 1, 1, 1]) rfl rfl rfl ?_
  refine wregionM field_Element_Times.o4 (.tp 0 (.tp 1 (.tk 2 (.tp 3 (.tp 4 (.tk 5 (.tp 9 (.tp 10 (.tk 11 (.tp 12 (.tp 13 (.tk 14 (.tp 17 (.tp 18 (.tk 19 (.tp 20 (.tp 21 (.tk 22 (.tp 25 (.tp 26 (.tk 27 (.tp 28 (.tp 29 (.tk 30 (.tp 33 (.tp 34 (.tk 35 (.tp 36 (.tp 37 (.tk 38 (.ef 6 (.tp 7 (.tp 8 (.ef 15 (.tp 16 (.ef 23 (.tp 24 (.ef 31 (.tp 32 (.ef 39 (.tp 40 (.tp 41 (.ef 42 (.ef 43 (.done))))))))))))))))))))))))))))))))))))))))))))) [43] [(0, 0, 17592186044415), (1, 1, 17592186044415), (2, 2, 0), (4, 4, 17592186044415), (0, 0, 17592186044415), (16, 16, 0), (32, 17592186044415, 17592186044415), (64, 64, 17592186044415), (136, 136, 17592186044415), (0, 0, 17592186044415), (512, 512, 17592186044415), (1024, 1024, 0), (2048, 2048, 17592186044415), (0, 0, 17592186044415), (8192, 8192, 0), (16448, 17592186044415, 17592186044415), (36864, 36864, 17592186044415), (0, 0, 17592186044415), (131072, 131072, 17592186044415), (262144, 262144, 0), (524288, 524288, 17592186044415), (0, 0, 17592186044415), (2097152, 2097152, 0), (4227072, 17592186044415, 17592186044415), (9437184, 9437184, 17592186044415), (0, 0, 17592186044415), (33554432, 33554432, 17592186044415), (67108864, 67108864, 0), (134217728, 134217728, 17592186044415), (0, 0, 17592186044415), (536870912, 536870912, 0), (1082130432, 17592186044415, 17592186044415), (2415919104, 2415919104, 17592186044415), (0, 0, 17592186044415), (8589934592, 8589934592, 17592186044415), (17179869184, 17179869184, 0), (34359738368, 34359738368, 17592186044415), (0, 0, 17592186044415), (137438953472, 137438953472, 0), (277025390592, 17592186044415, 17592186044415), (618475290624, 618475290624, 17592186044415), (1103823438080, 1103823438080, 17592186044415), (2748779069440, 17592186044415, 17592186044415), (8796093022207, 17592186044415, 17592186044415)] rfl rfl (by kernel_rfl) (by kernel_rfl) (Nat.le_of_ble_eq_true (by kernel_rfl)) (by kernel_rfl) (by kernel_rfl) (by kernel_rfl) ?_
  have hp := hp.drew
  refine k_indexA (n := 5) (s := 2) (j := 0) rfl Try.underlying89 (by kernel_rfl) s6_e26 rfl (by decide) ?_
  refine k_fieldAddr (n := 1) rfl (by kernel_rfl) rfl ?_
  refine k_load (j := 1) (v := .int .u64 ((r10 ++ r15 ++ r20 ++ r25 ++ r30).getD 1 0)) rfl (by kernel_rfl) rfl (hp.get (j := 4) rfl) rfl rfl (ints_get (Nat.lt_of_lt_of_eq (m := 10) (by decide) (show List.length ((r10 ++ r15 ++ r20 ++ r25 ++ r30) : List Int) = 10 by simp [lr100, lr150, lr200, lr250, lr300]).symm)) ?_
  refine k_bin (X := .int .u64 ((r10 ++ r15 ++ r20 ++ r25 ++ r30).getD 1 0)) (Y := .int .u64 2251799813685247) rfl rfl rfl rfl ?_
  refine k_indexA (n := 5) (s := 2) (j := 4) rfl Try.underlying89 (by kernel_rfl) s6_e26 rfl (by decide) ?_
  refine k_loadA (n := 2) (xs := ints .u64 (((r10 ++ r15 ++ r20 ++ r25 ++ r30).drop 8).take 2)) 8 rfl (by kernel_rfl) (by kernel_rfl) rfl (hp.get (j := 4) rfl) rfl rfl ((ints_length _ _).trans (show List.length (((r10 ++ r15 ++ r20 ++ r25 ++ r30).drop 8).take 2) = 2 from part_len (show List.length ((r10 ++ r15 ++ r20 ++ r25 ++ r30) : List Int) = 10 by simp [lr100, lr150, lr200, lr250, lr300]) (by decide))) (fun m v hm => part_get hm) ?_
  refine k_indexA (n := 5) (s := 2) (j := 1) rfl Try.underlying89 (by kernel_rfl) s6_e26 rfl (by decide) ?_
  refine k_fieldAddr (n := 1) rfl (by kernel_rfl) rfl ?_
  refine k_load (j := 3) (v := .int .u64 ((r10 ++ r15 ++ r20 ++ r25 ++ r30).getD 3 0)) rfl (by kernel_rfl) rfl (hp.get (j := 4) rfl) rfl rfl (ints_get (Nat.lt_of_lt_of_eq (m := 10) (by decide) (show List.length ((r10 ++ r15 ++ r20 ++ r25 ++ r30) : List Int) = 10 by simp [lr100, lr150, lr200, lr250, lr300]).symm)) ?_
  refine k_bin (X := .int .u64 ((r10 ++ r15 ++ r20 ++ r25 ++ r30).getD 3 0)) (Y := .int .u64 2251799813685247) rfl rfl rfl rfl ?_
  refine k_indexA (n := 5) (s := 2) (j := 0) rfl Try.underlying89 (by kernel_rfl) s6_e26 rfl (by decide) ?_
  refine k_loadA (n := 2) (xs := ints .u64 (((r10 ++ r15 ++ r20 ++ r25 ++ r30).drop 0).take 2)) 0 rfl (by kernel_rfl) (by kernel_rfl) rfl (hp.get (j := 4) rfl) rfl rfl ((ints_length _ _).trans (show List.length (((r10 ++ r15 ++ r20 ++ r25 ++ r30).drop 0).take 2) = 2 from part_len (show List.length ((r10 ++ r15 ++ r20 ++ r25 ++ r30) : List Int) = 10 by simp [lr100, lr150, lr200, lr250, lr300]) (by decide))) (fun m v hm => part_get hm) ?_
  refine k_indexA (n := 5) (s := 2) (j := 2) rfl Try.underlying89 (by kernel_rfl) s6_e26 rfl (by decide) ?_
  refine k_fieldAddr (n := 1) rfl (by kernel_rfl) rfl ?_
  refine k_load (j := 5) (v := .int .u64 ((r10 ++ r15 ++ r20 ++ r25 ++ r30).getD 5 0)) rfl (by kernel_rfl) rfl (hp.get (j := 4) rfl) rfl rfl (ints_get (Nat.lt_of_lt_of_eq (m := 10) (by decide) (show List.length ((r10 ++ r15 ++ r20 ++ r25 ++ r30) : List Int) = 10 by simp [lr100, lr150, lr200, lr250, lr300]).symm)) ?_
  refine k_bin (X := .int .u64 ((r10 ++ r15 ++ r20 ++ r25 ++ r30).getD 5 0)) (Y := .int .u64 2251799813685247) rfl rfl rfl rfl ?_
  refine k_indexA (n := 5) (s := 2) (j := 1) rfl Try.underlying89 (by kernel_rfl) s6_e26 rfl (by decide) ?_
  refine k_loadA (n := 2) (xs := ints .u64 (((r10 ++ r15 ++ r20 ++ r25 ++ r30).drop 2).take 2)) 2 rfl (by kernel_rfl) (by kernel_rfl) rfl (hp.get (j := 4) rfl) rfl rfl ((ints_length _ _).trans (show List.length (((r10 ++ r15 ++ r20 ++ r25 ++ r30).drop 2).take 2) = 2 from part_len (show List.length ((r10 ++ r15 ++ r20 ++ r25 ++ r30) : List Int) = 10 by simp [lr100, lr150, lr200, lr250, lr300]) (by decide))) (fun m v hm => part_get hm) ?_
  refine k_indexA (n := 5) (s := 2) (j := 3) rfl Try.underlying89 (by kernel_rfl) s6_e26 rfl (by decide) ?_
  refine k_fieldAddr (n := 1) rfl (by kernel_rfl) rfl ?_
  refine k_load (j := 7) (v := .int .u64 ((r10 ++ r15 ++ r20 ++ r25 ++ r30).getD 7 0)) rfl (by kernel_rfl) rfl (hp.get (j := 4) rfl) rfl rfl (ints_get (Nat.lt_of_lt_of_eq (m := 10) (by decide) (show List.length ((r10 ++ r15 ++ r20 ++ r25 ++ r30) : List Int) = 10 by simp [lr100, lr150, lr200, lr250, lr300]).symm)) ?_
  refine k_bin (X := .int .u64 ((r10 ++ r15 ++ r20 ++ r25 ++ r30).getD 7 0)) (Y := .int .u64 2251799813685247) rfl rfl rfl rfl ?_
  refine k_indexA (n := 5) (s := 2) (j := 2) rfl Try.underlying89 (by kernel_rfl) s6_e26 rfl (by decide) ?_
  refine k_loadA (n := 2) (xs := ints .u64 (((r10 ++ r15 ++ r20 ++ r25 ++ r30).drop 4).take 2)) 4 rfl (by kernel_rfl) (by kernel_rfl) rfl (hp.get (j := 4) rfl) rfl rfl ((ints_length _ _).trans (show List.length (((r10 ++ r15 ++ r20 ++ r25 ++ r30).drop 4).take 2) = 2 from part_len (show List.length ((r10 ++ r15 ++ r20 ++ r25 ++ r30) : List Int) = 10 by simp [lr100, lr150, lr200, lr250, lr300]) (by decide))) (fun m v hm => part_get hm) ?_
  refine k_indexA (n := 5) (s := 2) (j := 4) rfl Try.underlying89 (by kernel_rfl) s6_e26 rfl (by decide) ?_
  refine k_fieldAddr (n := 1) rfl (by kernel_rfl) rfl ?_
  refine k_load (j := 9) (v := .int .u64 ((r10 ++ r15 ++ r20 ++ r25 ++ r30).getD 9 0)) rfl (by kernel_rfl) rfl (hp.get (j := 4) rfl) rfl rfl (ints_get (Nat.lt_of_lt_of_eq (m := 10) (by decide) (show List.length ((r10 ++ r15 ++ r20 ++ r25 ++ r30) : List Int) = 10 by simp [lr100, lr150, lr200, lr250, lr300]).symm)) ?_
  refine k_bin (X := .int .u64 ((r10 ++ r15 ++ r20 ++ r25 ++ r30).getD 9 0)) (Y := .int .u64 2251799813685247) rfl rfl rfl rfl ?_
  refine k_indexA (n := 5) (s := 2) (j := 3) rfl Try.underlying89 (by kernel_rfl) s6_e26 rfl (by decide) ?_
  refine k_loadA (n := 2) (xs := ints .u64 (((r10 ++ r15 ++ r20 ++ r25 ++ r30).drop 6).take 2)) 6 rfl (by kernel_rfl) (by kernel_rfl) rfl (hp.get (j := 4) rfl) rfl rfl ((ints_length _ _).trans (show List.length (((r10 ++ r15 ++ r20 ++ r25 ++ r30).drop 6).take 2) = 2 from part_len (show List.length ((r10 ++ r15 ++ r20 ++ r25 ++ r30) : List Int) = 10 by simp [lr100, lr150, lr200, lr250, lr300]) (by decide))) (fun m v hm => part_get hm) ?_
  obtain ⟨r32, qr32, h⟩ := bd_e h
  refine k_call [.agg (ints .u64 (((r10 ++ r15 ++ r20 ++ r25 ++ r30).drop 8).take 2)).toArray] rfl (by kernel_rfl) (args1 rfl) (field_wide_shifted_ok (((r10 ++ r15 ++ r20 ++ r25 ++ r30).drop 8).take 2) (show List.length (((r10 ++ r15 ++ r20 ++ r25 ++ r30).drop 8).take 2) = 2 from part_len (show List.length ((r10 ++ r15 ++ r20 ++ r25 ++ r30) : List Int) = 10 by simp [lr100, lr150, lr200, lr250, lr300]) (by decide)) _ (hp.toR (fun _ h => by cases h)) qr32) ?_
  rintro _ w' ⟨_, rfl, rfl, hpc⟩
  refine ⟨_, rfl, .inr (.of_below hpc.chg.to_below), ?_⟩; have hp := hp.below hpc.chg.to_below; clear hpc
  refine k_bin (X := .int .u64 19) (Y := .int .u64 r32) rfl rfl rfl rfl ?_
  refine k_bin (X := .int .u64 (bits .and .u64 ((r10 ++ r15 ++ r20 ++ r25 ++ r30).getD 1 0) 2251799813685247)) (Y := .int .u64 (IntKind.u64.wrap (19 * r32))) rfl rfl rfl rfl ?_
  obtain ⟨r33, qr33, h⟩ := bd_e h
  refine k_call [.agg (ints .u64 (((r10 ++ r15 ++ r20 ++ r25 ++ r30).drop 0).take 2)).toArray] rfl (by kernel_rfl) (args1 rfl) (field_wide_shifted_ok (((r10 ++ r15 ++ r20 ++ r25 ++ r30).drop 0).take 2) (show List.length (((r10 ++ r15 ++ r20 ++ r25 ++ r30).drop 0).take 2) = 2 from part_len (show List.length ((r10 ++ r15 ++ r20 ++ r25 ++ r30) : List Int) = 10 by simp [lr100, lr150, lr200, lr250, lr300]) (by decide)) _ (hp.toR (fun _ h => by cases h)) qr33) ?_
  rintro _ w' ⟨_, rfl, rfl, hpc⟩
  refine ⟨_, rfl, .inr (.of_below hpc.chg.to_below), ?_⟩; have hp := hp.below hpc.chg.to_below; clear hpc
  refine k_bin (X := .int .u64 (bits .and .u64 ((r10 ++ r15 ++ r20 ++ r25 ++ r30).getD 3 0) 2251799813685247)) (Y := .int .u64 r33) rfl rfl rfl rfl ?_
  obtain ⟨r34, qr34, h⟩ := bd_e h
  refine k_call [.agg (ints .u64 (((r10 ++ r15 ++ r20 ++ r25 ++ r30).drop 2).take 2)).toArray] rfl (by kernel_rfl) (args1 rfl) (field_wide_shifted_ok (((r10 ++ r15 ++ r20 ++ r25 ++ r30).drop 2).take 2) (show List.length (((r10 ++ r15 ++ r20 ++ r25 ++ r30).drop 2).take 2) = 2 from part_len (show List.length ((r10 ++ r15 ++ r20 ++ r25 ++ r30) : List Int) = 10 by simp [lr100, lr150, lr200, lr250, lr300]) (by decide)) _ (hp.toR (fun _ h => by cases h)) qr34) ?_
  rintro _ w' ⟨_, rfl, rfl, hpc⟩
  refine ⟨_, rfl, .inr (.of_below hpc.chg.to_below), ?_⟩; have hp := hp.below hpc.chg.to_below; clear hpc
  refine k_bin (X := .int .u64 (bits .and .u64 ((r10 ++ r15 ++ r20 ++ r25 ++ r30).getD 5 0) 2251799813685247)) (Y := .int .u64 r34) rfl rfl rfl rfl ?_
  obtain ⟨r35, qr35, h⟩ := bd_e h
  refine k_call [.agg (ints .u64 (((r10 ++ r15 ++ r20 ++ r25 ++ r30).drop 4).take 2)).toArray] rfl (by kernel_rfl) (args1 rfl) (field_wide_shifted_ok (((r10 ++ r15 ++ r20 ++ r25 ++ r30).drop 4).take 2) (show List.length (((r10 ++ r15 ++ r20 ++ r25 ++ r30).drop 4).take 2) = 2 from part_len (show List.length ((r10 ++ r15 ++ r20 ++ r25 ++ r30) : List Int) = 10 by simp [lr100, lr150, lr200, lr250, lr300]) (by decide)) _ (hp.toR (fun _ h => by cases h)) qr35) ?_
  rintro _ w' ⟨_, rfl, rfl, hpc⟩
  refine ⟨_, rfl, .inr (.of_below hpc.chg.to_below), ?_⟩; have hp := hp.below hpc.chg.to_below; clear hpc
  refine k_bin (X := .int .u64 (bits .and .u64 ((r10 ++ r15 ++ r20 ++ r25 ++ r30).getD 7 0) 2251799813685247)) (Y := .int .u64 r35) rfl rfl rfl rfl ?_
  obtain ⟨r36, qr36, h⟩ := bd_e h
  refine k_call [.agg (ints .u64 (((r10 ++ r15 ++ r20 ++ r25 ++ r30).drop 6).take 2)).toArray] rfl (by kernel_rfl) (args1 rfl) (field_wide_shifted_ok (((r10 ++ r15 ++ r20 ++ r25 ++ r30).drop 6).take 2) (show List.length (((r10 ++ r15 ++ r20 ++ r25 ++ r30).drop 6).take 2) = 2 from part_len (show List.length ((r10 ++ r15 ++ r20 ++ r25 ++ r30) : List Int) = 10 by simp [lr100, lr150, lr200, lr250, lr300]) (by decide)) _ (hp.toR (fun _ h => by cases h)) qr36) ?_
  rintro _ w' ⟨_, rfl, rfl, hpc⟩
  refine ⟨_, rfl, .inr (.of_below hpc.chg.to_below), ?_⟩; have hp := hp.below hpc.chg.to_below; clear hpc
  refine k_bin (X := .int .u64 (bits .and .u64 ((r10 ++ r15 ++ r20 ++ r25 ++ r30).getD 9 0) 2251799813685247)) (Y := .int .u64 r36) rfl rfl rfl rfl ?_
  refine k_build (v := .agg (ints .u64 [(IntKind.u64.wrap ((bits .and .u64 ((r10 ++ r15 ++ r20 ++ r25 ++ r30).getD 1 0) 2251799813685247) + (IntKind.u64.wrap (19 * r32)))), (IntKind.u64.wrap ((bits .and .u64 ((r10 ++ r15 ++ r20 ++ r25 ++ r30).getD 3 0) 2251799813685247) + r33)), (IntKind.u64.wrap ((bits .and .u64 ((r10 ++ r15 ++ r20 ++ r25 ++ r30).getD 5 0) 2251799813685247) + r34)), (IntKind.u64.wrap ((bits .and .u64 ((r10 ++ r15 ++ r20 ++ r25 ++ r30).getD 7 0) 2251799813685247) + r35)), (IntKind.u64.wrap ((bits .and .u64 ((r10 ++ r15 ++ r20 ++ r25 ++ r30).getD 9 0) 2251799813685247) + r36))]).toArray) rfl (fun _ => by kernel_rfl) ?_
  obtain ⟨r37, qr37, h⟩ := bd_e h
  refine k_call [.agg (ints .u64 [(IntKind.u64.wrap ((bits .and .u64 ((r10 ++ r15 ++ r20 ++ r25 ++ r30).getD 1 0) 2251799813685247) + (IntKind.u64.wrap (19 * r32)))), (IntKind.u64.wrap ((bits .and .u64 ((r10 ++ r15 ++ r20 ++ r25 ++ r30).getD 3 0) 2251799813685247) + r33)), (IntKind.u64.wrap ((bits .and .u64 ((r10 ++ r15 ++ r20 ++ r25 ++ r30).getD 5 0) 2251799813685247) + r34)), (IntKind.u64.wrap ((bits .and .u64 ((r10 ++ r15 ++ r20 ++ r25 ++ r30).getD 7 0) 2251799813685247) + r35)), (IntKind.u64.wrap ((bits .and .u64 ((r10 ++ r15 ++ r20 ++ r25 ++ r30).getD 9 0) 2251799813685247) + r36))]).toArray] rfl (by kernel_rfl) (args1 rfl) (field_Element_carried_ok [(IntKind.u64.wrap ((bits .and .u64 ((r10 ++ r15 ++ r20 ++ r25 ++ r30).getD 1 0) 2251799813685247) + (IntKind.u64.wrap (19 * r32)))), (IntKind.u64.wrap ((bits .and .u64 ((r10 ++ r15 ++ r20 ++ r25 ++ r30).getD 3 0) 2251799813685247) + r33)), (IntKind.u64.wrap ((bits .and .u64 ((r10 ++ r15 ++ r20 ++ r25 ++ r30).getD 5 0) 2251799813685247) + r34)), (IntKind.u64.wrap ((bits .and .u64 ((r10 ++ r15 ++ r20 ++ r25 ++ r30).getD 7 0) 2251799813685247) + r35)), (IntKind.u64.wrap ((bits .and .u64 ((r10 ++ r15 ++ r20 ++ r25 ++ r30).getD 9 0) 2251799813685247) + r36))] (rfl : List.length ([(IntKind.u64.wrap ((bits .and .u64 ((r10 ++ r15 ++ r20 ++ r25 ++ r30).getD 1 0) 2251799813685247) + (IntKind.u64.wrap (19 * r32)))), (IntKind.u64.wrap ((bits .and .u64 ((r10 ++ r15 ++ r20 ++ r25 ++ r30).getD 3 0) 2251799813685247) + r33)), (IntKind.u64.wrap ((bits .and .u64 ((r10 ++ r15 ++ r20 ++ r25 ++ r30).getD 5 0) 2251799813685247) + r34)), (IntKind.u64.wrap ((bits .and .u64 ((r10 ++ r15 ++ r20 ++ r25 ++ r30).getD 7 0) 2251799813685247) + r35)), (IntKind.u64.wrap ((bits .and .u64 ((r10 ++ r15 ++ r20 ++ r25 ++ r30).getD 9 0) 2251799813685247) + r36))] : List Int) = 5) _ (hp.toR (fun _ h => by cases h)) qr37) ?_
  rintro _ w' ⟨_, rfl, rfl, lr370, hpc⟩
  refine ⟨_, rfl, .inr (.of_below hpc.chg.to_below), ?_⟩; have hp := hp.below hpc.chg.to_below; clear hpc
  refine k_storeA (v := .agg (ints .u64 r37).toArray) 2 0 (r := ⟨g3, 0, ints .u64 (List.replicate 5 (0 : Int))⟩) (ints .u64 r37) (ints .u64 r37) rfl (n := 5) (by kernel_rfl) s4_e26 rfl rfl ((ints_length _ _).trans lr370) (ints_one _ _) hp rfl rfl rfl (Nat.le_of_eq ((Nat.zero_add _).trans ((ints_length _ _).trans List.length_replicate).symm)) (setMany_all _ _ (((ints_length _ _).trans lr370).trans ((ints_length _ _).trans List.length_replicate).symm)) (by decide) ?_; intro w hp
  refine k_end ?_; intro e27 qe27
  have s4_e27 : e27 4 = .pointer (some ⟨g3, 0, none⟩) := (congrFun qe27 4).trans s4_e26
  clear qe27
  refine wret rfl ?_
  have hr : r = r37 := (Option.some.inj h).symm
  show RetP _ _ _ _ _
  rw [hr]
  exact ret_i [.agg (ints .u64 r37).toArray] (res_cell s4_e27 (loadVar_agg (by kernel_rfl) (by kernel_rfl) ((ints_length _ _).trans lr370) (hp.get (j := 2) rfl) rfl rfl rfl) res_nil) ⟨rfl, lr370, hp.none⟩
/-! 33 postilion/point.B -/
noncomputable def point_B.o1 : Array Oper := opsC (at_ (fbody Try.f33) [0])
noncomputable def point_B.o2 : Array Oper := opsC (at_ (fbody Try.f33) [1, 0])
noncomputable def point_B.o3 : Array Oper := opsC (at_ (fbody Try.f33) [1, 1, 0])
noncomputable def point_B.o4 : Array Oper := opsC (at_ (fbody Try.f33) [1, 1, 1, 0])
theorem point_B_ok  (w0 : World) (hp : Hp w0 [] w0 [] []) {r : List Int} (h : point_B.f  = some r) :
    Calls Try.prog 33 [].toArray w0 fun x w' => ∃ v, x = .returned v ∧ v = .agg (ints .u64 r).toArray ∧ r.length = 20 ∧ Hp w0 [] w' [] [] := by
  refine calls_inP Try.func33 rfl (Nat.le_of_ble_eq_true (by kernel_rfl)) (by kernel_rfl) ?_
  intro e0 qe0
  clear qe0
  unfold point_B.f at h
  refine wseqP (p0 := [0]) (p1 := [1]) rfl rfl rfl ?_
  refine wregionT point_B.o1 (.ef 0 (.done)) [] rfl rfl (by kernel_rfl) (by kernel_rfl) ?_
  refine k_alloc (ints .u64 (List.replicate 20 (0 : Int))) rfl (by kernel_rfl) hp ?_
  intro g1 w hbg1 hp
  refine k_end ?_; intro e28 qe28
  have s0_e28 : e28 0 = .pointer (some ⟨g1, 0, none⟩) := congrFun qe28 0
  clear qe28
  refine wseqP (p0 := [1, 0]) (p1 := [1, 1]) rfl rfl rfl ?_
  refine wregionT point_B.o2 (.tp 0 (.ef 1 (.ef 2 (.done)))) [2] rfl rfl (by kernel_rfl) (by kernel_rfl) ?_
  refine k_build (v := .agg (ints .u64 [1738742601995546, 1146398526822698, 2070867633025821, 562264141797630, 587772402128613]).toArray) rfl (fun _ => by kernel_rfl) ?_
  refine k_alloc (ints .u64 (List.replicate 5 (0 : Int))) rfl (by kernel_rfl) hp ?_
  intro g2 w hbg2 hp
  refine k_storeA (v := .agg (ints .u64 [1738742601995546, 1146398526822698, 2070867633025821, 562264141797630, 587772402128613]).toArray) 1 0 (r := ⟨g2, 0, ints .u64 (List.replicate 5 (0 : Int))⟩) (ints .u64 [1738742601995546, 1146398526822698, 2070867633025821, 562264141797630, 587772402128613]) (ints .u64 [1738742601995546, 1146398526822698, 2070867633025821, 562264141797630, 587772402128613]) rfl (n := 5) (by kernel_rfl) rfl rfl rfl ((ints_length _ _).trans (rfl : List.length ([1738742601995546, 1146398526822698, 2070867633025821, 562264141797630, 587772402128613] : List Int) = 5)) (ints_one _ _) hp rfl rfl rfl (Nat.le_of_eq ((Nat.zero_add _).trans ((ints_length _ _).trans List.length_replicate).symm)) (setMany_all _ _ (((ints_length _ _).trans (rfl : List.length ([1738742601995546, 1146398526822698, 2070867633025821, 562264141797630, 587772402128613] : List Int) = 5)).trans ((ints_length _ _).trans List.length_replicate).symm)) (by decide) ?_; intro w hp
  refine k_end ?_; intro e29 qe29
  have s0_e29 : e29 0 = .pointer (some ⟨g1, 0, none⟩) := (congrFun qe29 0).trans s0_e28
  have s1_e29 : e29 1 = .pointer (some ⟨g2, 0, none⟩) := congrFun qe29 1
  clear qe29
  obtain ⟨x3, qx3, h⟩ := lt_e h
  have lx3 : x3.length = 5 := (congrArg List.length qx3).trans (rfl : List.length ([1738742601995546, 1146398526822698, 2070867633025821, 562264141797630, 587772402128613] : List Int) = 5)
  have hp : Hp w0 [] w [⟨g1, 0, ints .u64 (List.replicate 20 (0 : Int))⟩, ⟨g2, 0, ints .u64 x3⟩] [] := by rw [qx3]; exact hp
  refine wseqP (p0 := [1, 1, 0]) (p1 := [1, 1, 1]) rfl rfl rfl ?_
  refine wregionT point_B.o3 (.tp 0 (.ef 1 (.ef 2 (.done)))) [2] rfl rfl (by kernel_rfl) (by kernel_rfl) ?_
  refine k_build (v := .agg (ints .u64 [1801439850948184, 1351079888211148, 450359962737049, 900719925474099, 1801439850948198]).toArray) rfl (fun _ => by kernel_rfl) ?_
  refine k_alloc (ints .u64 (List.replicate 5 (0 : Int))) rfl (by kernel_rfl) hp ?_
  intro g4 w hbg4 hp
  refine k_storeA (v := .agg (ints .u64 [1801439850948184, 1351079888211148, 450359962737049, 900719925474099, 1801439850948198]).toArray) 2 0 (r := ⟨g4, 0, ints .u64 (List.replicate 5 (0 : Int))⟩) (ints .u64 [1801439850948184, 1351079888211148, 450359962737049, 900719925474099, 1801439850948198]) (ints .u64 [1801439850948184, 1351079888211148, 450359962737049, 900719925474099, 1801439850948198]) rfl (n := 5) (by kernel_rfl) rfl rfl rfl ((ints_length _ _).trans (rfl : List.length ([1801439850948184, 1351079888211148, 450359962737049, 900719925474099, 1801439850948198] : List Int) = 5)) (ints_one _ _) hp rfl rfl rfl (Nat.le_of_eq ((Nat.zero_add _).trans ((ints_length _ _).trans List.length_replicate).symm)) (setMany_all _ _ (((ints_length _ _).trans (rfl : List.length ([1801439850948184, 1351079888211148, 450359962737049, 900719925474099, 1801439850948198] : List Int) = 5)).trans ((ints_length _ _).trans List.length_replicate).symm)) (by decide) ?_; intro w hp
  refine k_end ?_; intro e30 qe30
  have s0_e30 : e30 0 = .pointer (some ⟨g1, 0, none⟩) := (congrFun qe30 0).trans s0_e29
  have s1_e30 : e30 1 = .pointer (some ⟨g2, 0, none⟩) := (congrFun qe30 1).trans s1_e29
  have s2_e30 : e30 2 = .pointer (some ⟨g4, 0, none⟩) := congrFun qe30 2
  clear qe30
  obtain ⟨x5, qx5, h⟩ := lt_e h
  have lx5 : x5.length = 5 := (congrArg List.length qx5).trans (rfl : List.length ([1801439850948184, 1351079888211148, 450359962737049, 900719925474099, 1801439850948198] : List Int) = 5)
  have hp : Hp w0 [] w [⟨g1, 0, ints .u64 (List.replicate 20 (0 : Int))⟩, ⟨g2, 0, ints .u64 x3⟩, ⟨g4, 0, ints .u64 x5⟩] [] := by rw [qx5]; exact hp
  refine wseqP (p0 := [1, 1, 1, 0]) (p1 := [1, 1, 1, 1]) rfl rfl rfl ?_
  refine wregionM point_B.o4 (.tk 0 (.tk 1 (.tk 3 (.tk 4 (.ef 2 (.ef 5 (.tp 6 (.ef 7 (.done))))))))) [7] [(0, 0, 0), (0, 0, 0), (0, 255, 255), (0, 0, 0), (0, 0, 0), (28, 255, 255), (39, 39, 255), (127, 255, 255)] rfl rfl (by kernel_rfl) (by kernel_rfl) (Nat.le_of_ble_eq_true (by kernel_rfl)) (by kernel_rfl) (by kernel_rfl) (by kernel_rfl) ?_
  have hp := hp.drew
  refine k_loadA (n := 5) (xs := ints .u64 x3) 0 rfl (by kernel_rfl) (by kernel_rfl) s1_e30 (hp.get (j := 1) rfl) rfl rfl ((ints_length _ _).trans lx3) (fun m v hm => by rw [Nat.zero_add]; exact hm) ?_
  refine k_loadA (n := 5) (xs := ints .u64 x5) 0 rfl (by kernel_rfl) (by kernel_rfl) s2_e30 (hp.get (j := 2) rfl) rfl rfl ((ints_length _ _).trans lx5) (fun m v hm => by rw [Nat.zero_add]; exact hm) ?_
  refine k_loadA (n := 5) (xs := ints .u64 x3) 0 rfl (by kernel_rfl) (by kernel_rfl) s1_e30 (hp.get (j := 1) rfl) rfl rfl ((ints_length _ _).trans lx3) (fun m v hm => by rw [Nat.zero_add]; exact hm) ?_
  refine k_loadA (n := 5) (xs := ints .u64 x5) 0 rfl (by kernel_rfl) (by kernel_rfl) s2_e30 (hp.get (j := 2) rfl) rfl rfl ((ints_length _ _).trans lx5) (fun m v hm => by rw [Nat.zero_add]; exact hm) ?_
  obtain ⟨r6, qr6, h⟩ := bd_e h
  refine k_call [] rfl (by kernel_rfl) (args0 ) (field_One_ok   _ (hp.toR (fun _ h => by cases h)) qr6) ?_
  rintro _ w' ⟨_, rfl, rfl, lr60, hpc⟩
  refine ⟨_, rfl, .inr (.of_below hpc.chg.to_below), ?_⟩; have hp := hp.below hpc.chg.to_below; clear hpc
  obtain ⟨r7, qr7, h⟩ := bd_e h
  refine k_call [.agg (ints .u64 x3).toArray, .agg (ints .u64 x5).toArray] rfl (by kernel_rfl) (args2 rfl rfl) (field_Element_Times_ok x3 x5 lx3 lx5 _ (hp.toR (fun _ h => by cases h)) qr7) ?_
  rintro _ w' ⟨_, rfl, rfl, lr70, hpc⟩
  refine ⟨_, rfl, .inr (.of_below hpc.chg.to_below), ?_⟩; have hp := hp.below hpc.chg.to_below; clear hpc
  refine k_buildP (v := .agg (ints .u64 (x3 ++ x5 ++ r6 ++ r7)).toArray) [(0, .agg (ints .u64 x3).toArray), (1, .agg (ints .u64 x5).toArray), (2, .agg (ints .u64 r6).toArray), (3, .agg (ints .u64 r7).toArray)] rfl (pcons rfl (pcons rfl (pcons rfl (pcons rfl pnil)))) (fun _ => by rw [lst x3 lx3, lst x5 lx5, lst r6 lr60, lst r7 lr70]; kernel_rfl) ?_
  refine k_storeA (v := .agg (ints .u64 (x3 ++ x5 ++ r6 ++ r7)).toArray) 0 0 (r := ⟨g1, 0, ints .u64 (List.replicate 20 (0 : Int))⟩) (ints .u64 (x3 ++ x5 ++ r6 ++ r7)) (ints .u64 (x3 ++ x5 ++ r6 ++ r7)) rfl (n := 20) (by kernel_rfl) s0_e30 rfl rfl ((ints_length _ _).trans (show List.length ((x3 ++ x5 ++ r6 ++ r7) : List Int) = 20 by simp [lx3, lx5, lr60, lr70])) (ints_one _ _) hp rfl rfl rfl (Nat.le_of_eq ((Nat.zero_add _).trans ((ints_length _ _).trans List.length_replicate).symm)) (setMany_all _ _ (((ints_length _ _).trans (show List.length ((x3 ++ x5 ++ r6 ++ r7) : List Int) = 20 by simp [lx3, lx5, lr60, lr70])).trans ((ints_length _ _).trans List.length_replicate).symm)) (by decide) ?_; intro w hp
  refine k_end ?_; intro e31 qe31
  have s0_e31 : e31 0 = .pointer (some ⟨g1, 0, none⟩) := (congrFun qe31 0).trans s0_e30
  clear qe31
  refine wret rfl ?_
  have hr : r = (x3 ++ x5 ++ r6 ++ r7) := (Option.some.inj h).symm
  show RetP _ _ _ _ _
  rw [hr]
  exact ret_i [.agg (ints .u64 (x3 ++ x5 ++ r6 ++ r7)).toArray] (res_cell s0_e31 (loadVar_agg (by kernel_rfl) (by kernel_rfl) ((ints_length _ _).trans (show List.length ((x3 ++ x5 ++ r6 ++ r7) : List Int) = 20 by simp [lx3, lx5, lr60, lr70])) (hp.get (j := 0) rfl) rfl rfl rfl) res_nil) ⟨rfl, (show List.length ((x3 ++ x5 ++ r6 ++ r7) : List Int) = 20 by simp [lx3, lx5, lr60, lr70]), hp.none⟩
/-! 81 (postilion/field.Element).squared -/
noncomputable def field_Element_squared.o1 : Array Oper := opsC (at_ (fbody Try.f81) [0])
noncomputable def field_Element_squared.o2 : Array Oper := opsC (at_ (fbody Try.f81) [1, 0, 0])
noncomputable def field_Element_squared.o3 : Array Oper := opsC (at_ (fbody Try.f81) [1, 0, 1, 0, 0, 0])
noncomputable def field_Element_squared.o4 : Array Oper := opsC (at_ (fbody Try.f81) [1, 0, 1, 0, 0, 1, 1, 0, 0])
noncomputable def field_Element_squared.o5 : Array Oper := opsC (at_ (fbody Try.f81) [1, 0, 1, 0, 0, 1, 1, 1])
noncomputable def field_Element_squared.o6 : Array Oper := opsC (at_ (fbody Try.f81) [1, 1, 0])
theorem field_Element_squared.p1_ok {w0 : World} {Ws : List Wr} {Q : Exit → Env → World → Prop} (g1 g2 : Nat) (a1 : Int)  {r : List Int} (hQ0 : ∀ (e' : Env) (w' : World) (z0 : List Int), z0.length = 5 → e' 2 = .pointer (some ⟨g1, 0, none⟩) → e' 4 = .pointer (some ⟨g2, 0, none⟩) → Hp w0 Ws w' [⟨g1, 0, ints .u64 z0⟩, ⟨g2, 0, ints .u64 (List.replicate 5 (0 : Int))⟩] [] → r = (z0) → Q (.exit 0) e' w') : ∀ (k : Nat), ∀ (y3 : List Int) (y4 : Int) (e : Env) (w : World) (ly3 : y3.length = 5) (s2_e : e 2 = .pointer (some ⟨g1, 0, none⟩)) (s4_e : e 4 = .pointer (some ⟨g2, 0, none⟩)) (s5_e : e 5 = .int .i64 a1) (s6_e : e 6 = .int .i64 y4) (hp : Hp w0 Ws w [⟨g1, 0, ints .u64 y3⟩, ⟨g2, 0, ints .u64 (List.replicate 5 (0 : Int))⟩] []) (h : field_Element_squared.p1 k a1 y3 y4 = some r), Lp Try.prog Try.f81.ntmps (at_ (fbody Try.f81) [1, 0, 1, 0, 0]) Q k e w := by
  intro k
  induction k with
  | zero => intro y3 y4 e w ly3 s2_e s4_e s5_e s6_e hp h; cases h
  | succ k ih =>
    intro y3 y4 e w ly3 s2_e s4_e s5_e s6_e hp h
    unfold field_Element_squared.p1 at h
    show Wp _ _ _ _ _ _
    refine wseqP (p0 := [1, 0, 1, 0, 0, 0]) (p1 := [1, 0, 1, 0, 0, 1]) rfl rfl rfl ?_
    refine wregionT field_Element_squared.o3 (.tp 0 (.done)) [] rfl rfl (by kernel_rfl) (by kernel_rfl) ?_
    refine k_bin (X := .int .i64 y4) (Y := .int .i64 a1) rfl s6_e s5_e rfl ?_
    refine k_end ?_; intro e34 qe34
    have s2_e34 : e34 2 = .pointer (some ⟨g1, 0, none⟩) := (congrFun qe34 2).trans s2_e
    have s4_e34 : e34 4 = .pointer (some ⟨g2, 0, none⟩) := (congrFun qe34 4).trans s4_e
    have s5_e34 : e34 5 = .int .i64 a1 := (congrFun qe34 5).trans s5_e
    have s6_e34 : e34 6 = .int .i64 y4 := (congrFun qe34 6).trans s6_e
    have s7_e34 : e34 7 = .bool (decide (y4 < a1)) := congrFun qe34 7
    clear qe34
    refine wseqP (p0 := [1, 0, 1, 0, 0, 1, 0]) (p1 := [1, 0, 1, 0, 0, 1, 1]) rfl rfl rfl ?_
    refine wcondP (p0 := [1, 0, 1, 0, 0, 1, 0, 0]) (p1 := [1, 0, 1, 0, 0, 1, 0, 1]) (t := (decide (y4 < a1))) rfl rfl rfl (by decide) s7_e34 (fun hb => ?_) (fun hb => ?_)
    · replace h := br_t hb h
      refine wskip rfl ?_
      refine wseqP (p0 := [1, 0, 1, 0, 0, 1, 1, 0]) (p1 := [1, 0, 1, 0, 0, 1, 1, 1]) rfl rfl rfl ?_
      refine wblockP (p0 := [1, 0, 1, 0, 0, 1, 1, 0, 0]) 1 rfl rfl ?_
      refine wregionT field_Element_squared.o4 (.tk 0 (.tk 1 (.ef 2 (.ef 3 (.done))))) [3] rfl rfl (by kernel_rfl) (by kernel_rfl) ?_
      refine k_loadA (n := 5) (xs := ints .u64 y3) 0 rfl (by kernel_rfl) (by kernel_rfl) s2_e34 (hp.get (j := 0) rfl) rfl rfl ((ints_length _ _).trans ly3) (fun m v hm => by rw [Nat.zero_add]; exact hm) ?_
      refine k_loadA (n := 5) (xs := ints .u64 y3) 0 rfl (by kernel_rfl) (by kernel_rfl) s2_e34 (hp.get (j := 0) rfl) rfl rfl ((ints_length _ _).trans ly3) (fun m v hm => by rw [Nat.zero_add]; exact hm) ?_
      obtain ⟨r5, qr5, h⟩ := bd_e h
      refine k_call [.agg (ints .u64 y3).toArray, .agg (ints .u64 y3).toArray] rfl (by kernel_rfl) (args2 rfl rfl) (field_Element_Times_ok y3 y3 ly3 ly3 _ (hp.toR (fun _ h => by cases h)) qr5) ?_
      rintro _ w' ⟨_, rfl, rfl, lr50, hpc⟩
      refine ⟨_, rfl, .inr (.of_below hpc.chg.to_below), ?_⟩; have hp := hp.below hpc.chg.to_below; clear hpc
      refine k_storeA (v := .agg (ints .u64 r5).toArray) 0 0 (r := ⟨g1, 0, ints .u64 y3⟩) (ints .u64 r5) (ints .u64 r5) rfl (n := 5) (by kernel_rfl) s2_e34 rfl rfl ((ints_length _ _).trans lr50) (ints_one _ _) hp rfl rfl rfl (Nat.le_of_eq ((Nat.zero_add _).trans ((ints_length _ _).trans ly3).symm)) (setMany_all _ _ (((ints_length _ _).trans lr50).trans ((ints_length _ _).trans ly3).symm)) (by decide) ?_; intro w hp
      refine k_end ?_; intro e35 qe35
      have s2_e35 : e35 2 = .pointer (some ⟨g1, 0, none⟩) := (congrFun qe35 2).trans s2_e34
      have s4_e35 : e35 4 = .pointer (some ⟨g2, 0, none⟩) := (congrFun qe35 4).trans s4_e34
      have s5_e35 : e35 5 = .int .i64 a1 := (congrFun qe35 5).trans s5_e34
      have s6_e35 : e35 6 = .int .i64 y4 := (congrFun qe35 6).trans s6_e34
      clear qe35
      refine wregionT field_Element_squared.o5 (.tp 0 (.tp 1 (.done))) [] rfl rfl (by kernel_rfl) (by kernel_rfl) ?_
      refine k_bin (X := .int .i64 y4) (Y := .int .i64 1) rfl s6_e35 rfl rfl ?_
      refine k_move (v := .int .i64 (IntKind.i64.wrap (y4 + 1))) rfl rfl ?_
      refine k_end ?_; intro e36 qe36
      have s2_e36 : e36 2 = .pointer (some ⟨g1, 0, none⟩) := (congrFun qe36 2).trans s2_e35
      have s4_e36 : e36 4 = .pointer (some ⟨g2, 0, none⟩) := (congrFun qe36 4).trans s4_e35
      have s5_e36 : e36 5 = .int .i64 a1 := (congrFun qe36 5).trans s5_e35
      obtain ⟨x6, qx6, h⟩ := lt_e h
      have s6_e36 : e36 6 = .int .i64 x6 := (congrFun qe36 6).trans (congrArg (Value.int .i64) qx6.symm)
      clear qe36
      exact ih r5 x6 _ _ lr50 s2_e36 s4_e36 s5_e36 s6_e36 (hp.drop (L' := [⟨g1, 0, ints .u64 r5⟩, ⟨g2, 0, ints .u64 (List.replicate 5 (0 : Int))⟩]) (List.Sublist.refl _)) h
    · replace h := br_f hb h
      refine wexit rfl ?_
      exact hQ0 _ _ y3 ly3 s2_e34 s4_e34 (hp.drop (L' := [⟨g1, 0, ints .u64 y3⟩, ⟨g2, 0, ints .u64 (List.replicate 5 (0 : Int))⟩]) (List.Sublist.refl _)) (Option.some.inj h).symm
theorem field_Element_squared_ok (k : Nat) (a0 : List Int) (a1 : Int) (la0 : a0.length = 5) (w0 : World) (hp : Hp w0 [] w0 [] []) {r : List Int} (h : field_Element_squared.f k a0 a1 = some r) :
    Calls Try.prog 81 [.agg (ints .u64 a0).toArray, .int .i64 a1].toArray w0 fun x w' => ∃ v, x = .returned v ∧ v = .agg (ints .u64 r).toArray ∧ r.length = 5 ∧ Hp w0 [] w' [] [] := by
  refine calls_inP Try.func81 rfl (Nat.le_of_ble_eq_true (by kernel_rfl)) (by kernel_rfl) ?_
  intro e0 qe0
  have s0_e0 : e0 0 = .agg (ints .u64 a0).toArray := congrFun qe0 0
  have s1_e0 : e0 1 = .int .i64 a1 := congrFun qe0 1
  clear qe0
  unfold field_Element_squared.f at h
  refine wseqP (p0 := [0]) (p1 := [1]) rfl rfl rfl ?_
  refine wregionT field_Element_squared.o1 (.ef 0 (.ef 1 (.done))) [] rfl rfl (by kernel_rfl) (by kernel_rfl) ?_
  refine k_box (v := .agg (ints .u64 a0).toArray) (ints .u64 a0) rfl s0_e0 rfl hp ?_
  intro g1 w hbg1 hp
  refine k_alloc (ints .u64 (List.replicate 5 (0 : Int))) rfl (by kernel_rfl) hp ?_
  intro g2 w hbg2 hp
  refine k_end ?_; intro e32 qe32
  have s1_e32 : e32 1 = .int .i64 a1 := (congrFun qe32 1).trans s1_e0
  have s2_e32 : e32 2 = .pointer (some ⟨g1, 0, none⟩) := congrFun qe32 2
  have s4_e32 : e32 4 = .pointer (some ⟨g2, 0, none⟩) := congrFun qe32 4
  clear qe32
  refine wseqP (p0 := [1, 0]) (p1 := [1, 1]) rfl rfl rfl ?_
  refine wseqP (p0 := [1, 0, 0]) (p1 := [1, 0, 1]) rfl rfl rfl ?_
  refine wregionT field_Element_squared.o2 (.tp 0 (.tp 1 (.done))) [] rfl rfl (by kernel_rfl) (by kernel_rfl) ?_
  refine k_move (v := .int .i64 a1) rfl s1_e32 ?_
  refine k_move (v := .int .i64 0) rfl rfl ?_
  refine k_end ?_; intro e33 qe33
  have s2_e33 : e33 2 = .pointer (some ⟨g1, 0, none⟩) := (congrFun qe33 2).trans s2_e32
  have s4_e33 : e33 4 = .pointer (some ⟨g2, 0, none⟩) := (congrFun qe33 4).trans s4_e32
  have s5_e33 : e33 5 = .int .i64 a1 := congrFun qe33 5
  have s6_e33 : e33 6 = .int .i64 0 := congrFun qe33 6
  clear qe33
  refine wblockP (p0 := [1, 0, 1, 0]) 0 rfl rfl ?_
  obtain ⟨r7, qr7, h⟩ := bd_e h
  refine wloopP (p0 := [1, 0, 1, 0, 0]) k rfl rfl (field_Element_squared.p1_ok g1 g2 a1  ?hq0 k a0 0 e33 _ la0 s2_e33 s4_e33 s5_e33 s6_e33 hp qr7)
  case hq0 =>
    intro e37 w m8 lm8 s2_e37 s4_e37 hp qq
    rw [qq] at h; clear qq
    refine wseqP (p0 := [1, 1, 0]) (p1 := [1, 1, 1]) rfl rfl rfl ?_
    refine wregionT field_Element_squared.o6 (.tk 0 (.ef 1 (.done))) [1] rfl rfl (by kernel_rfl) (by kernel_rfl) ?_
    refine k_loadA (n := 5) (xs := ints .u64 m8) 0 rfl (by kernel_rfl) (by kernel_rfl) s2_e37 (hp.get (j := 0) rfl) rfl rfl ((ints_length _ _).trans lm8) (fun m v hm => by rw [Nat.zero_add]; exact hm) ?_
    refine k_storeA (v := .agg (ints .u64 m8).toArray) 1 0 (r := ⟨g2, 0, ints .u64 (List.replicate 5 (0 : Int))⟩) (ints .u64 m8) (ints .u64 m8) rfl (n := 5) (by kernel_rfl) s4_e37 rfl rfl ((ints_length _ _).trans lm8) (ints_one _ _) hp rfl rfl rfl (Nat.le_of_eq ((Nat.zero_add _).trans ((ints_length _ _).trans List.length_replicate).symm)) (setMany_all _ _ (((ints_length _ _).trans lm8).trans ((ints_length _ _).trans List.length_replicate).symm)) (by decide) ?_; intro w hp
    refine k_end ?_; intro e38 qe38
    have s4_e38 : e38 4 = .pointer (some ⟨g2, 0, none⟩) := (congrFun qe38 4).trans s4_e37
    clear qe38
    refine wret rfl ?_
    have hr : r = m8 := (Option.some.inj h).symm
    show RetP _ _ _ _ _
    rw [hr]
    exact ret_i [.agg (ints .u64 m8).toArray] (res_cell s4_e38 (loadVar_agg (by kernel_rfl) (by kernel_rfl) ((ints_length _ _).trans lm8) (hp.get (j := 1) rfl) rfl rfl rfl) res_nil) ⟨rfl, lm8, hp.none⟩
/-! 84 (postilion/field.Element).chain -/
noncomputable def field_Element_chain.o1 : Array Oper := opsC (at_ (fbody Try.f84) [0])
noncomputable def field_Element_chain.o2 : Array Oper := opsC (at_ (fbody Try.f84) [1, 0])
noncomputable def field_Element_chain.o3 : Array Oper := opsC (at_ (fbody Try.f84) [1, 1, 0])
noncomputable def field_Element_chain.o4 : Array Oper := opsC (at_ (fbody Try.f84) [1, 1, 1, 0])
noncomputable def field_Element_chain.o5 : Array Oper := opsC (at_ (fbody Try.f84) [1, 1, 1, 1, 0])
noncomputable def field_Element_chain.o6 : Array Oper := opsC (at_ (fbody Try.f84) [1, 1, 1, 1, 1, 0])
noncomputable def field_Element_chain.o7 : Array Oper := opsC (at_ (fbody Try.f84) [1, 1, 1, 1, 1, 1, 0])
noncomputable def field_Element_chain.o8 : Array Oper := opsC (at_ (fbody Try.f84) [1, 1, 1, 1, 1, 1, 1, 0])
noncomputable def field_Element_chain.o9 : Array Oper := opsC (at_ (fbody Try.f84) [1, 1, 1, 1, 1, 1, 1, 1, 0])
noncomputable def field_Element_chain.o10 : Array Oper := opsC (at_ (fbody Try.f84) [1, 1, 1, 1, 1, 1, 1, 1, 1, 0])
noncomputable def field_Element_chain.o11 : Array Oper := opsC (at_ (fbody Try.f84) [1, 1, 1, 1, 1, 1, 1, 1, 1, 1, 0])
noncomputable def field_Element_chain.o12 : Array Oper := opsC (at_ (fbody Try.f84) [1, 1, 1, 1, 1, 1, 1, 1, 1, 1, 1, 0])
set_option maxHeartbeats 4000000 in
theorem field_Element_chain_ok (k : Nat) (a0 : List Int) (la0 : a0.length = 5) (w0 : World) (hp : Hp w0 [] w0 [] []) {r : List Int × List Int} (h : field_Element_chain.f k a0 = some r) :
    Calls Try.prog 84 [.agg (ints .u64 a0).toArray].toArray w0 fun x w' => ∃ v, x = .returned v ∧ v = .tuple #[.agg (ints .u64 r.1).toArray, .agg (ints .u64 r.2).toArray] ∧ r.1.length = 5 ∧ r.2.length = 5 ∧ Hp w0 [] w' [] [] := by
  refine calls_inP Try.func84 rfl (Nat.le_of_ble_eq_true (by kernel_rfl)) (by kernel_rfl) ?_
  intro e0 qe0
  have s0_e0 : e0 0 = .agg (ints .u64 a0).toArray := congrFun qe0 0
  clear qe0
  unfold field_Element_chain.f at h
  refine wseqP (p0 := [0]) (p1 := [1]) rfl rfl rfl ?_
  refine wregionT field_Element_chain.o1 (.ef 0 (.ef 1 (.ef 2 (.done)))) [] rfl rfl (by kernel_rfl) (by kernel_rfl) ?_
  refine k_box (v := .agg (ints .u64 a0).toArray) (ints .u64 a0) rfl s0_e0 rfl hp ?_
  intro g1 w hbg1 hp
  refine k_alloc (ints .u64 (List.replicate 5 (0 : Int))) rfl (by kernel_rfl) hp ?_
  intro g2 w hbg2 hp
  refine k_alloc (ints .u64 (List.replicate 5 (0 : Int))) rfl (by kernel_rfl) hp ?_
  intro g3 w hbg3 hp
  refine k_end ?_; intro e39 qe39
  have s1_e39 : e39 1 = .pointer (some ⟨g1, 0, none⟩) := congrFun qe39 1
  have s2_e39 : e39 2 = .pointer (some ⟨g2, 0, none⟩) := congrFun qe39 2
  have s3_e39 : e39 3 = .pointer (some ⟨g3, 0, none⟩) := congrFun qe39 3
  clear qe39
  refine wseqP (p0 := [1, 0]) (p1 := [1, 1]) rfl rfl rfl ?_
  refine wregionT field_Element_chain.o2 (.tk 0 (.ef 1 (.ef 2 (.ef 3 (.done))))) [3] rfl rfl (by kernel_rfl) (by kernel_rfl) ?_
  refine k_loadA (n := 5) (xs := ints .u64 a0) 0 rfl (by kernel_rfl) (by kernel_rfl) s1_e39 (hp.get (j := 0) rfl) rfl rfl ((ints_length _ _).trans la0) (fun m v hm => by rw [Nat.zero_add]; exact hm) ?_
  obtain ⟨r4, qr4, h⟩ := bd_e h
  refine k_call [.agg (ints .u64 a0).toArray, .int .i64 1] rfl (by kernel_rfl) (args2 rfl rfl) (field_Element_squared_ok k a0 1 la0 _ (hp.toR (fun _ h => by cases h)) qr4) ?_
  rintro _ w' ⟨_, rfl, rfl, lr40, hpc⟩
  refine ⟨_, rfl, .inr (.of_below hpc.chg.to_below), ?_⟩; have hp := hp.below hpc.chg.to_below; clear hpc
  refine k_alloc (ints .u64 (List.replicate 5 (0 : Int))) rfl (by kernel_rfl) hp ?_
  intro g5 w hbg5 hp
  refine k_storeA (v := .agg (ints .u64 r4).toArray) 3 0 (r := ⟨g5, 0, ints .u64 (List.replicate 5 (0 : Int))⟩) (ints .u64 r4) (ints .u64 r4) rfl (n := 5) (by kernel_rfl) rfl rfl rfl ((ints_length _ _).trans lr40) (ints_one _ _) hp rfl rfl rfl (Nat.le_of_eq ((Nat.zero_add _).trans ((ints_length _ _).trans List.length_replicate).symm)) (setMany_all _ _ (((ints_length _ _).trans lr40).trans ((ints_length _ _).trans List.length_replicate).symm)) (by decide) ?_; intro w hp
  refine k_end ?_; intro e40 qe40
  have s1_e40 : e40 1 = .pointer (some ⟨g1, 0, none⟩) := (congrFun qe40 1).trans s1_e39
  have s2_e40 : e40 2 = .pointer (some ⟨g2, 0, none⟩) := (congrFun qe40 2).trans s2_e39
  have s3_e40 : e40 3 = .pointer (some ⟨g3, 0, none⟩) := (congrFun qe40 3).trans s3_e39
  have s4_e40 : e40 4 = .pointer (some ⟨g5, 0, none⟩) := congrFun qe40 4
  clear qe40
  refine wseqP (p0 := [1, 1, 0]) (p1 := [1, 1, 1]) rfl rfl rfl ?_
  obtain ⟨r6, qr6, h⟩ := bd_e h
  obtain ⟨r7, qr7, h⟩ := bd_e h
  refine wcut (fun e41 w2 => ∃ g8 : Nat, (((r7.length = 5 ∧ e41 2 = .pointer (some ⟨g2, 0, none⟩)) ∧ e41 3 = .pointer (some ⟨g3, 0, none⟩)) ∧ (e41 4 = .pointer (some ⟨g5, 0, none⟩) ∧ e41 5 = .pointer (some ⟨g8, 0, none⟩))) ∧ Hp w0 [] w2 [⟨g1, 0, ints .u64 a0⟩, ⟨g2, 0, ints .u64 (List.replicate 5 (0 : Int))⟩, ⟨g3, 0, ints .u64 (List.replicate 5 (0 : Int))⟩, ⟨g5, 0, ints .u64 r4⟩, ⟨g8, 0, ints .u64 r7⟩] []) ?_ ?_
  rotate_left
  · refine wregionM field_Element_chain.o3 (.tk 0 (.tk 2 (.rest 5 4))) [5] [(0, 0, 0), (1, 63, 63), (0, 0, 0), (6, 63, 63), (0, 63, 63), (31, 63, 63)] rfl rfl (by kernel_rfl) (by kernel_rfl) (Nat.le_of_ble_eq_true (by kernel_rfl)) (by kernel_rfl) (by kernel_rfl) (by kernel_rfl) ?_
    have hp := hp.drew
    refine k_loadA (n := 5) (xs := ints .u64 r4) 0 rfl (by kernel_rfl) (by kernel_rfl) s4_e40 (hp.get (j := 3) rfl) rfl rfl ((ints_length _ _).trans lr40) (fun m v hm => by rw [Nat.zero_add]; exact hm) ?_
    refine k_loadA (n := 5) (xs := ints .u64 a0) 0 rfl (by kernel_rfl) (by kernel_rfl) s1_e40 (hp.get (j := 0) rfl) rfl rfl ((ints_length _ _).trans la0) (fun m v hm => by rw [Nat.zero_add]; exact hm) ?_
    refine k_rest [1, 3, 4, 5] (fun L e w => ∃ g8 : Nat, ∃ c_g8_0 : List Int, (((((L 1 = true → r6.length = 5) ∧ (L 3 = true → r7.length = 5)) ∧ (((e 2 = .pointer (some ⟨g2, 0, none⟩) ∧ e 3 = .pointer (some ⟨g3, 0, none⟩)) ∧ e 4 = .pointer (some ⟨g5, 0, none⟩)) ∧ (e 16 = .agg (ints .u64 r4).toArray ∧ e 18 = .agg (ints .u64 a0).toArray))) ∧ ((L 1 = true → e 17 = .agg (ints .u64 r6).toArray) ∧ (L 3 = true → e 19 = .agg (ints .u64 r7).toArray))) ∧ (((L 4 = true → e 5 = .pointer (some ⟨g8, 0, none⟩)) ∧ (L 4 = false → c_g8_0 = ([] : List Int))) ∧ ((L 5 = false → L 4 = true → c_g8_0 = (List.replicate 5 (0 : Int))) ∧ (L 5 = true → c_g8_0 = r7)))) ∧ Hp w0 [] w [⟨g1, 0, ints .u64 a0⟩, ⟨g2, 0, ints .u64 (List.replicate 5 (0 : Int))⟩, ⟨g3, 0, ints .u64 (List.replicate 5 (0 : Int))⟩, ⟨g5, 0, ints .u64 r4⟩, ⟨g8, 0, ints .u64 c_g8_0⟩] []) (by kernel_rfl) (by kernel_rfl) ?_ ?_ ?_
    have hp := hp.free1 0 0
    · exact ⟨0, ([] : List Int), ⟨⟨⟨⟨(fun h => absurd h (by decide)), (fun h => absurd h (by decide))⟩, ⟨⟨⟨s2_e40, s3_e40⟩, s4_e40⟩, ⟨rfl, rfl⟩⟩⟩, ⟨(fun h => absurd h (by decide)), (fun h => absurd h (by decide))⟩⟩, ⟨⟨(fun h => absurd h (by decide)), (fun _ => rfl)⟩, ⟨(fun _ h => absurd h (by decide)), (fun h => absurd h (by decide))⟩⟩⟩, hp⟩
    · rintro L e w hall ⟨g8, c_g8_0, hF, hp⟩
      have qc_g8_0 := hF.2.2.2 (hall 5 rfl)
      rw [qc_g8_0] at hp
      exact onlyN_i ⟨g8, ⟨⟨⟨(hF.1.1.1.2 (hall 3 rfl)), hF.1.1.2.1.1.1⟩, hF.1.1.2.1.1.2⟩, ⟨hF.1.1.2.1.2, (hF.2.1.1 (hall 4 rfl))⟩⟩, hp⟩
    refine allU_cons ?_ ?_
    · rintro L e w hLi hb hcl ⟨g8, c_g8_0, hF, hp⟩
      refine k_call [.agg (ints .u64 r4).toArray, .int .i64 2] rfl (by kernel_rfl) (args2 hF.1.1.2.2.1 rfl) (field_Element_squared_ok k r4 2 lr40 _ (hp.toR (fun _ h => by cases h)) qr6) ?_
      rintro _ w' ⟨_, rfl, rfl, lr60, hpc⟩
      refine ⟨_, rfl, .inr (.of_below hpc.chg.to_below), ?_⟩; have hp := hp.below hpc.chg.to_below; clear hpc
      exact k_done ⟨g8, c_g8_0, ⟨⟨⟨⟨(fun _ => lr60), hF.1.1.1.2⟩, hF.1.1.2⟩, ⟨(fun _ => rfl), hF.1.2.2⟩⟩, hF.2⟩, hp⟩
    refine allU_cons ?_ ?_
    · rintro L e w hLi hb hcl ⟨g8, c_g8_0, hF, hp⟩
      have hL1 := hb 1 (by kernel_rfl)
      have lr60 := hF.1.1.1.1 hL1
      refine k_call [.agg (ints .u64 r6).toArray, .agg (ints .u64 a0).toArray] rfl (by kernel_rfl) (args2 (hF.1.2.1 hL1) hF.1.1.2.2.2) (field_Element_Times_ok r6 a0 lr60 la0 _ (hp.toR (fun _ h => by cases h)) qr7) ?_
      rintro _ w' ⟨_, rfl, rfl, lr70, hpc⟩
      refine ⟨_, rfl, .inr (.of_below hpc.chg.to_below), ?_⟩; have hp := hp.below hpc.chg.to_below; clear hpc
      exact k_done ⟨g8, c_g8_0, ⟨⟨⟨⟨hF.1.1.1.1, (fun _ => lr70)⟩, hF.1.1.2⟩, ⟨hF.1.2.1, (fun _ => rfl)⟩⟩, hF.2⟩, hp⟩
    refine allU_cons ?_ ?_
    · rintro L e w hLi hb hcl ⟨g8, c_g8_0, hF, hp⟩
      have qc_g8_0 := hF.2.1.2 hLi
      rw [qc_g8_0] at hp
      refine k_allocAt 4 (ints .u64 (List.replicate 5 (0 : Int))) rfl (by kernel_rfl) hp ?_
      intro g8 w hbg8 hp
      exact k_done ⟨g8, (List.replicate 5 (0 : Int)), ⟨hF.1, ⟨⟨(fun _ => rfl), (fun h => nomatch (show true = false from h))⟩, ⟨(fun _ _ => rfl), (fun h => absurd (hLi.symm.trans (hcl 5 4 (by kernel_rfl) h)) (by decide))⟩⟩⟩, hp⟩
    refine allU_cons ?_ allU_nil
    · rintro L e w hLi hb hcl ⟨g8, c_g8_0, hF, hp⟩
      have hL3 := hb 3 (by kernel_rfl)
      have hL4 := hb 4 (by kernel_rfl)
      have lr70 := hF.1.1.1.2 hL3
      have qc_g8_0 := hF.2.2.1 hLi hL4
      rw [qc_g8_0] at hp
      refine k_storeA (v := .agg (ints .u64 r7).toArray) 4 0 (r := ⟨g8, 0, ints .u64 (List.replicate 5 (0 : Int))⟩) (ints .u64 r7) (ints .u64 r7) rfl (n := 5) (by kernel_rfl) (hF.2.1.1 hL4) (hF.1.2.2 hL3) rfl ((ints_length _ _).trans lr70) (ints_one _ _) hp rfl rfl rfl (Nat.le_of_eq ((Nat.zero_add _).trans ((ints_length _ _).trans List.length_replicate).symm)) (setMany_all _ _ (((ints_length _ _).trans lr70).trans ((ints_length _ _).trans List.length_replicate).symm)) (by decide) ?_; intro w hp
      exact k_done ⟨g8, r7, ⟨hF.1, ⟨⟨hF.2.1.1, (fun h => absurd (hL4.symm.trans h) (by decide))⟩, ⟨(fun h _ => nomatch (show true = false from h)), (fun _ => rfl)⟩⟩⟩, hp⟩
  rintro e41 w ⟨g8, hF, hp⟩
  have lr70 := hF.1.1.1
  have s2_e41 := hF.1.1.2
  have s3_e41 := hF.1.2
  have s4_e41 := hF.2.1
  have s5_e41 := hF.2.2
  clear hF
  refine wseqP (p0 := [1, 1, 1, 0]) (p1 := [1, 1, 1, 1]) rfl rfl rfl ?_
  refine wregionT field_Element_chain.o4 (.tk 0 (.tk 1 (.ef 2 (.ef 3 (.ef 4 (.done)))))) [4] rfl rfl (by kernel_rfl) (by kernel_rfl) ?_
  refine k_loadA (n := 5) (xs := ints .u64 r7) 0 rfl (by kernel_rfl) (by kernel_rfl) s5_e41 (hp.get (j := 4) rfl) rfl rfl ((ints_length _ _).trans lr70) (fun m v hm => by rw [Nat.zero_add]; exact hm) ?_
  refine k_loadA (n := 5) (xs := ints .u64 r4) 0 rfl (by kernel_rfl) (by kernel_rfl) s4_e41 (hp.get (j := 3) rfl) rfl rfl ((ints_length _ _).trans lr40) (fun m v hm => by rw [Nat.zero_add]; exact hm) ?_
  obtain ⟨r9, qr9, h⟩ := bd_e h
  refine k_call [.agg (ints .u64 r7).toArray, .agg (ints .u64 r4).toArray] rfl (by kernel_rfl) (args2 rfl rfl) (field_Element_Times_ok r7 r4 lr70 lr40 _ (hp.toR (fun _ h => by cases h)) qr9) ?_
  rintro _ w' ⟨_, rfl, rfl, lr90, hpc⟩
  refine ⟨_, rfl, .inr (.of_below hpc.chg.to_below), ?_⟩; have hp := hp.below hpc.chg.to_below; clear hpc
  refine k_alloc (ints .u64 (List.replicate 5 (0 : Int))) rfl (by kernel_rfl) hp ?_
  intro g10 w hbg10 hp
  refine k_storeA (v := .agg (ints .u64 r9).toArray) 5 0 (r := ⟨g10, 0, ints .u64 (List.replicate 5 (0 : Int))⟩) (ints .u64 r9) (ints .u64 r9) rfl (n := 5) (by kernel_rfl) rfl rfl rfl ((ints_length _ _).trans lr90) (ints_one _ _) hp rfl rfl rfl (Nat.le_of_eq ((Nat.zero_add _).trans ((ints_length _ _).trans List.length_replicate).symm)) (setMany_all _ _ (((ints_length _ _).trans lr90).trans ((ints_length _ _).trans List.length_replicate).symm)) (by decide) ?_; intro w hp
  refine k_end ?_; intro e42 qe42
  have s2_e42 : e42 2 = .pointer (some ⟨g2, 0, none⟩) := (congrFun qe42 2).trans s2_e41
  have s3_e42 : e42 3 = .pointer (some ⟨g3, 0, none⟩) := (congrFun qe42 3).trans s3_e41
  have s5_e42 : e42 5 = .pointer (some ⟨g8, 0, none⟩) := (congrFun qe42 5).trans s5_e41
  have s6_e42 : e42 6 = .pointer (some ⟨g10, 0, none⟩) := congrFun qe42 6
  clear qe42
  refine wseqP (p0 := [1, 1, 1, 1, 0]) (p1 := [1, 1, 1, 1, 1]) rfl rfl rfl ?_
  obtain ⟨r11, qr11, h⟩ := bd_e h
  obtain ⟨r12, qr12, h⟩ := bd_e h
  refine wcut (fun e43 w2 => ∃ g13 : Nat, (((r12.length = 5 ∧ e43 2 = .pointer (some ⟨g2, 0, none⟩)) ∧ e43 3 = .pointer (some ⟨g3, 0, none⟩)) ∧ (e43 6 = .pointer (some ⟨g10, 0, none⟩) ∧ e43 7 = .pointer (some ⟨g13, 0, none⟩))) ∧ Hp w0 [] w2 [⟨g1, 0, ints .u64 a0⟩, ⟨g2, 0, ints .u64 (List.replicate 5 (0 : Int))⟩, ⟨g3, 0, ints .u64 (List.replicate 5 (0 : Int))⟩, ⟨g5, 0, ints .u64 r4⟩, ⟨g8, 0, ints .u64 r7⟩, ⟨g10, 0, ints .u64 r9⟩, ⟨g13, 0, ints .u64 r12⟩] []) ?_ ?_
  rotate_left
  · refine wregionM field_Element_chain.o5 (.tk 0 (.tk 2 (.rest 5 4))) [5] [(0, 0, 0), (1, 63, 63), (0, 0, 0), (6, 63, 63), (0, 63, 63), (31, 63, 63)] rfl rfl (by kernel_rfl) (by kernel_rfl) (Nat.le_of_ble_eq_true (by kernel_rfl)) (by kernel_rfl) (by kernel_rfl) (by kernel_rfl) ?_
    have hp := hp.drew
    refine k_loadA (n := 5) (xs := ints .u64 r9) 0 rfl (by kernel_rfl) (by kernel_rfl) s6_e42 (hp.get (j := 5) rfl) rfl rfl ((ints_length _ _).trans lr90) (fun m v hm => by rw [Nat.zero_add]; exact hm) ?_
    refine k_loadA (n := 5) (xs := ints .u64 r7) 0 rfl (by kernel_rfl) (by kernel_rfl) s5_e42 (hp.get (j := 4) rfl) rfl rfl ((ints_length _ _).trans lr70) (fun m v hm => by rw [Nat.zero_add]; exact hm) ?_
    refine k_rest [1, 3, 4, 5] (fun L e w => ∃ g13 : Nat, ∃ c_g13_0 : List Int, (((((L 1 = true → r11.length = 5) ∧ (L 3 = true → r12.length = 5)) ∧ (((e 2 = .pointer (some ⟨g2, 0, none⟩) ∧ e 3 = .pointer (some ⟨g3, 0, none⟩)) ∧ e 6 = .pointer (some ⟨g10, 0, none⟩)) ∧ (e 23 = .agg (ints .u64 r9).toArray ∧ e 25 = .agg (ints .u64 r7).toArray))) ∧ ((L 1 = true → e 24 = .agg (ints .u64 r11).toArray) ∧ (L 3 = true → e 26 = .agg (ints .u64 r12).toArray))) ∧ (((L 4 = true → e 7 = .pointer (some ⟨g13, 0, none⟩)) ∧ (L 4 = false → c_g13_0 = ([] : List Int))) ∧ ((L 5 = false → L 4 = true → c_g13_0 = (List.replicate 5 (0 : Int))) ∧ (L 5 = true → c_g13_0 = r12)))) ∧ Hp w0 [] w [⟨g1, 0, ints .u64 a0⟩, ⟨g2, 0, ints .u64 (List.replicate 5 (0 : Int))⟩, ⟨g3, 0, ints .u64 (List.replicate 5 (0 : Int))⟩, ⟨g5, 0, ints .u64 r4⟩, ⟨g8, 0, ints .u64 r7⟩, ⟨g10, 0, ints .u64 r9⟩, ⟨g13, 0, ints .u64 c_g13_0⟩] []) (by kernel_rfl) (by kernel_rfl) ?_ ?_ ?_
    have hp := hp.free1 0 0
    · exact ⟨0, ([] : List Int), ⟨⟨⟨⟨(fun h => absurd h (by decide)), (fun h => absurd h (by decide))⟩, ⟨⟨⟨s2_e42, s3_e42⟩, s6_e42⟩, ⟨rfl, rfl⟩⟩⟩, ⟨(fun h => absurd h (by decide)), (fun h => absurd h (by decide))⟩⟩, ⟨⟨(fun h => absurd h (by decide)), (fun _ => rfl)⟩, ⟨(fun _ h => absurd h (by decide)), (fun h => absurd h (by decide))⟩⟩⟩, hp⟩
    · rintro L e w hall ⟨g13, c_g13_0, hF, hp⟩
      have qc_g13_0 := hF.2.2.2 (hall 5 rfl)
      rw [qc_g13_0] at hp
      exact onlyN_i ⟨g13, ⟨⟨⟨(hF.1.1.1.2 (hall 3 rfl)), hF.1.1.2.1.1.1⟩, hF.1.1.2.1.1.2⟩, ⟨hF.1.1.2.1.2, (hF.2.1.1 (hall 4 rfl))⟩⟩, hp⟩
    refine allU_cons ?_ ?_
    · rintro L e w hLi hb hcl ⟨g13, c_g13_0, hF, hp⟩
      refine k_call [.agg (ints .u64 r9).toArray, .int .i64 1] rfl (by kernel_rfl) (args2 hF.1.1.2.2.1 rfl) (field_Element_squared_ok k r9 1 lr90 _ (hp.toR (fun _ h => by cases h)) qr11) ?_
      rintro _ w' ⟨_, rfl, rfl, lr110, hpc⟩
      refine ⟨_, rfl, .inr (.of_below hpc.chg.to_below), ?_⟩; have hp := hp.below hpc.chg.to_below; clear hpc
      exact k_done ⟨g13, c_g13_0, ⟨⟨⟨⟨(fun _ => lr110), hF.1.1.1.2⟩, hF.1.1.2⟩, ⟨(fun _ => rfl), hF.1.2.2⟩⟩, hF.2⟩, hp⟩
    refine allU_cons ?_ ?_
    · rintro L e w hLi hb hcl ⟨g13, c_g13_0, hF, hp⟩
      have hL1 := hb 1 (by kernel_rfl)
      have lr110 := hF.1.1.1.1 hL1
      refine k_call [.agg (ints .u64 r11).toArray, .agg (ints .u64 r7).toArray] rfl (by kernel_rfl) (args2 (hF.1.2.1 hL1) hF.1.1.2.2.2) (field_Element_Times_ok r11 r7 lr110 lr70 _ (hp.toR (fun _ h => by cases h)) qr12) ?_
      rintro _ w' ⟨_, rfl, rfl, lr120, hpc⟩
      refine ⟨_, rfl, .inr (.of_below hpc.chg.to_below), ?_⟩; have hp := hp.below hpc.chg.to_below; clear hpc
      exact k_done ⟨g13, c_g13_0, ⟨⟨⟨⟨hF.1.1.1.1, (fun _ => lr120)⟩, hF.1.1.2⟩, ⟨hF.1.2.1, (fun _ => rfl)⟩⟩, hF.2⟩, hp⟩
    refine allU_cons ?_ ?_
    · rintro L e w hLi hb hcl ⟨g13, c_g13_0, hF, hp⟩
      have qc_g13_0 := hF.2.1.2 hLi
      rw [qc_g13_0] at hp
      refine k_allocAt 6 (ints .u64 (List.replicate 5 (0 : Int))) rfl (by kernel_rfl) hp ?_
      intro g13 w hbg13 hp
      exact k_done ⟨g13, (List.replicate 5 (0 : Int)), ⟨hF.1, ⟨⟨(fun _ => rfl), (fun h => nomatch (show true = false from h))⟩, ⟨(fun _ _ => rfl), (fun h => absurd (hLi.symm.trans (hcl 5 4 (by kernel_rfl) h)) (by decide))⟩⟩⟩, hp⟩
    refine allU_cons ?_ allU_nil
    · rintro L e w hLi hb hcl ⟨g13, c_g13_0, hF, hp⟩
      have hL3 := hb 3 (by kernel_rfl)
      have hL4 := hb 4 (by kernel_rfl)
      have lr120 := hF.1.1.1.2 hL3
      have qc_g13_0 := hF.2.2.1 hLi hL4
      rw [qc_g13_0] at hp
      refine k_storeA (v := .agg (ints .u64 r12).toArray) 6 0 (r := ⟨g13, 0, ints .u64 (List.replicate 5 (0 : Int))⟩) (ints .u64 r12) (ints .u64 r12) rfl (n := 5) (by kernel_rfl) (hF.2.1.1 hL4) (hF.1.2.2 hL3) rfl ((ints_length _ _).trans lr120) (ints_one _ _) hp rfl rfl rfl (Nat.le_of_eq ((Nat.zero_add _).trans ((ints_length _ _).trans List.length_replicate).symm)) (setMany_all _ _ (((ints_length _ _).trans lr120).trans ((ints_length _ _).trans List.length_replicate).symm)) (by decide) ?_; intro w hp
      exact k_done ⟨g13, r12, ⟨hF.1, ⟨⟨hF.2.1.1, (fun h => absurd (hL4.symm.trans h) (by decide))⟩, ⟨(fun h _ => nomatch (show true = false from h)), (fun _ => rfl)⟩⟩⟩, hp⟩
  rintro e43 w ⟨g13, hF, hp⟩
  have lr120 := hF.1.1.1
  have s2_e43 := hF.1.1.2
  have s3_e43 := hF.1.2
  have s6_e43 := hF.2.1
  have s7_e43 := hF.2.2
  clear hF
  refine wseqP (p0 := [1, 1, 1, 1, 1, 0]) (p1 := [1, 1, 1, 1, 1, 1]) rfl rfl rfl ?_
  obtain ⟨r14, qr14, h⟩ := bd_e h
  obtain ⟨r15, qr15, h⟩ := bd_e h
  refine wcut (fun e44 w2 => ∃ g16 : Nat, (((r15.length = 5 ∧ e44 2 = .pointer (some ⟨g2, 0, none⟩)) ∧ e44 3 = .pointer (some ⟨g3, 0, none⟩)) ∧ (e44 6 = .pointer (some ⟨g10, 0, none⟩) ∧ e44 8 = .pointer (some ⟨g16, 0, none⟩))) ∧ Hp w0 [] w2 [⟨g1, 0, ints .u64 a0⟩, ⟨g2, 0, ints .u64 (List.replicate 5 (0 : Int))⟩, ⟨g3, 0, ints .u64 (List.replicate 5 (0 : Int))⟩, ⟨g5, 0, ints .u64 r4⟩, ⟨g8, 0, ints .u64 r7⟩, ⟨g10, 0, ints .u64 r9⟩, ⟨g13, 0, ints .u64 r12⟩, ⟨g16, 0, ints .u64 r15⟩] []) ?_ ?_
  rotate_left
  · refine wregionM field_Element_chain.o6 (.tk 0 (.tk 2 (.rest 5 4))) [5] [(0, 0, 0), (1, 63, 63), (0, 0, 0), (6, 63, 63), (0, 63, 63), (31, 63, 63)] rfl rfl (by kernel_rfl) (by kernel_rfl) (Nat.le_of_ble_eq_true (by kernel_rfl)) (by kernel_rfl) (by kernel_rfl) (by kernel_rfl) ?_
    have hp := hp.drew
    refine k_loadA (n := 5) (xs := ints .u64 r12) 0 rfl (by kernel_rfl) (by kernel_rfl) s7_e43 (hp.get (j := 6) rfl) rfl rfl ((ints_length _ _).trans lr120) (fun m v hm => by rw [Nat.zero_add]; exact hm) ?_
    refine k_loadA (n := 5) (xs := ints .u64 r12) 0 rfl (by kernel_rfl) (by kernel_rfl) s7_e43 (hp.get (j := 6) rfl) rfl rfl ((ints_length _ _).trans lr120) (fun m v hm => by rw [Nat.zero_add]; exact hm) ?_
    refine k_rest [1, 3, 4, 5] (fun L e w => ∃ g16 : Nat, ∃ c_g16_0 : List Int, (((((L 1 = true → r14.length = 5) ∧ (L 3 = true → r15.length = 5)) ∧ (((e 2 = .pointer (some ⟨g2, 0, none⟩) ∧ e 3 = .pointer (some ⟨g3, 0, none⟩)) ∧ e 6 = .pointer (some ⟨g10, 0, none⟩)) ∧ (e 27 = .agg (ints .u64 r12).toArray ∧ e 29 = .agg (ints .u64 r12).toArray))) ∧ ((L 1 = true → e 28 = .agg (ints .u64 r14).toArray) ∧ (L 3 = true → e 30 = .agg (ints .u64 r15).toArray))) ∧ (((L 4 = true → e 8 = .pointer (some ⟨g16, 0, none⟩)) ∧ (L 4 = false → c_g16_0 = ([] : List Int))) ∧ ((L 5 = false → L 4 = true → c_g16_0 = (List.replicate 5 (0 : Int))) ∧ (L 5 = true → c_g16_0 = r15)))) ∧ Hp w0 [] w [⟨g1, 0, ints .u64 a0⟩, ⟨g2, 0, ints .u64 (List.replicate 5 (0 : Int))⟩, ⟨g3, 0, ints .u64 (List.replicate 5 (0 : Int))⟩, ⟨g5, 0, ints .u64 r4⟩, ⟨g8, 0, ints .u64 r7⟩, ⟨g10, 0, ints .u64 r9⟩, ⟨g13, 0, ints .u64 r12⟩, ⟨g16, 0, ints .u64 c_g16_0⟩] []) (by kernel_rfl) (by kernel_rfl) ?_ ?_ ?_
    have hp := hp.free1 0 0
    · exact ⟨0, ([] : List Int), ⟨⟨⟨⟨(fun h => absurd h (by decide)), (fun h => absurd h (by decide))⟩, ⟨⟨⟨s2_e43, s3_e43⟩, s6_e43⟩, ⟨rfl, rfl⟩⟩⟩, ⟨(fun h => absurd h (by decide)), (fun h => absurd h (by decide))⟩⟩, ⟨⟨(fun h => absurd h (by decide)), (fun _ => rfl)⟩, ⟨(fun _ h => absurd h (by decide)), (fun h => absurd h (by decide))⟩⟩⟩, hp⟩
    · rintro L e w hall ⟨g16, c_g16_0, hF, hp⟩
      have qc_g16_0 := hF.2.2.2 (hall 5 rfl)
      rw [qc_g16_0] at hp
      exact onlyN_i ⟨g16, ⟨⟨⟨(hF.1.1.1.2 (hall 3 rfl)), hF.1.1.2.1.1.1⟩, hF.1.1.2.1.1.2⟩, ⟨hF.1.1.2.1.2, (hF.2.1.1 (hall 4 rfl))⟩⟩, hp⟩
    refine allU_cons ?_ ?_
    · rintro L e w hLi hb hcl ⟨g16, c_g16_0, hF, hp⟩
      refine k_call [.agg (ints .u64 r12).toArray, .int .i64 5] rfl (by kernel_rfl) (args2 hF.1.1.2.2.1 rfl) (field_Element_squared_ok k r12 5 lr120 _ (hp.toR (fun _ h => by cases h)) qr14) ?_
      rintro _ w' ⟨_, rfl, rfl, lr140, hpc⟩
      refine ⟨_, rfl, .inr (.of_below hpc.chg.to_below), ?_⟩; have hp := hp.below hpc.chg.to_below; clear hpc
      exact k_done ⟨g16, c_g16_0, ⟨⟨⟨⟨(fun _ => lr140), hF.1.1.1.2⟩, hF.1.1.2⟩, ⟨(fun _ => rfl), hF.1.2.2⟩⟩, hF.2⟩, hp⟩
    refine allU_cons ?_ ?_
    · rintro L e w hLi hb hcl ⟨g16, c_g16_0, hF, hp⟩
      have hL1 := hb 1 (by kernel_rfl)
      have lr140 := hF.1.1.1.1 hL1
      refine k_call [.agg (ints .u64 r14).toArray, .agg (ints .u64 r12).toArray] rfl (by kernel_rfl) (args2 (hF.1.2.1 hL1) hF.1.1.2.2.2) (field_Element_Times_ok r14 r12 lr140 lr120 _ (hp.toR (fun _ h => by cases h)) qr15) ?_
      rintro _ w' ⟨_, rfl, rfl, lr150, hpc⟩
      refine ⟨_, rfl, .inr (.of_below hpc.chg.to_below), ?_⟩; have hp := hp.below hpc.chg.to_below; clear hpc
      exact k_done ⟨g16, c_g16_0, ⟨⟨⟨⟨hF.1.1.1.1, (fun _ => lr150)⟩, hF.1.1.2⟩, ⟨hF.1.2.1, (fun _ => rfl)⟩⟩, hF.2⟩, hp⟩
    refine allU_cons ?_ ?_
    · rintro L e w hLi hb hcl ⟨g16, c_g16_0, hF, hp⟩
      have qc_g16_0 := hF.2.1.2 hLi
      rw [qc_g16_0] at hp
      refine k_allocAt 7 (ints .u64 (List.replicate 5 (0 : Int))) rfl (by kernel_rfl) hp ?_
      intro g16 w hbg16 hp
      exact k_done ⟨g16, (List.replicate 5 (0 : Int)), ⟨hF.1, ⟨⟨(fun _ => rfl), (fun h => nomatch (show true = false from h))⟩, ⟨(fun _ _ => rfl), (fun h => absurd (hLi.symm.trans (hcl 5 4 (by kernel_rfl) h)) (by decide))⟩⟩⟩, hp⟩
    refine allU_cons ?_ allU_nil
    · rintro L e w hLi hb hcl ⟨g16, c_g16_0, hF, hp⟩
      have hL3 := hb 3 (by kernel_rfl)
      have hL4 := hb 4 (by kernel_rfl)
      have lr150 := hF.1.1.1.2 hL3
      have qc_g16_0 := hF.2.2.1 hLi hL4
      rw [qc_g16_0] at hp
      refine k_storeA (v := .agg (ints .u64 r15).toArray) 7 0 (r := ⟨g16, 0, ints .u64 (List.replicate 5 (0 : Int))⟩) (ints .u64 r15) (ints .u64 r15) rfl (n := 5) (by kernel_rfl) (hF.2.1.1 hL4) (hF.1.2.2 hL3) rfl ((ints_length _ _).trans lr150) (ints_one _ _) hp rfl rfl rfl (Nat.le_of_eq ((Nat.zero_add _).trans ((ints_length _ _).trans List.length_replicate).symm)) (setMany_all _ _ (((ints_length _ _).trans lr150).trans ((ints_length _ _).trans List.length_replicate).symm)) (by decide) ?_; intro w hp
      exact k_done ⟨g16, r15, ⟨hF.1, ⟨⟨hF.2.1.1, (fun h => absurd (hL4.symm.trans h) (by decide))⟩, ⟨(fun h _ => nomatch (show true = false from h)), (fun _ => rfl)⟩⟩⟩, hp⟩
  rintro e44 w ⟨g16, hF, hp⟩
  have lr150 := hF.1.1.1
  have s2_e44 := hF.1.1.2
  have s3_e44 := hF.1.2
  have s6_e44 := hF.2.1
  have s8_e44 := hF.2.2
  clear hF
  refine wseqP (p0 := [1, 1, 1, 1, 1, 1, 0]) (p1 := [1, 1, 1, 1, 1, 1, 1]) rfl rfl rfl ?_
  obtain ⟨r17, qr17, h⟩ := bd_e h
  obtain ⟨r18, qr18, h⟩ := bd_e h
  refine wcut (fun e45 w2 => ∃ g19 : Nat, (((r18.length = 5 ∧ e45 2 = .pointer (some ⟨g2, 0, none⟩)) ∧ e45 3 = .pointer (some ⟨g3, 0, none⟩)) ∧ ((e45 6 = .pointer (some ⟨g10, 0, none⟩) ∧ e45 8 = .pointer (some ⟨g16, 0, none⟩)) ∧ e45 9 = .pointer (some ⟨g19, 0, none⟩))) ∧ Hp w0 [] w2 [⟨g1, 0, ints .u64 a0⟩, ⟨g2, 0, ints .u64 (List.replicate 5 (0 : Int))⟩, ⟨g3, 0, ints .u64 (List.replicate 5 (0 : Int))⟩, ⟨g5, 0, ints .u64 r4⟩, ⟨g8, 0, ints .u64 r7⟩, ⟨g10, 0, ints .u64 r9⟩, ⟨g13, 0, ints .u64 r12⟩, ⟨g16, 0, ints .u64 r15⟩, ⟨g19, 0, ints .u64 r18⟩] []) ?_ ?_
  rotate_left
  · refine wregionM field_Element_chain.o7 (.tk 0 (.tk 2 (.rest 5 4))) [5] [(0, 0, 0), (1, 63, 63), (0, 0, 0), (6, 63, 63), (0, 63, 63), (31, 63, 63)] rfl rfl (by kernel_rfl) (by kernel_rfl) (Nat.le_of_ble_eq_true (by kernel_rfl)) (by kernel_rfl) (by kernel_rfl) (by kernel_rfl) ?_
    have hp := hp.drew
    refine k_loadA (n := 5) (xs := ints .u64 r15) 0 rfl (by kernel_rfl) (by kernel_rfl) s8_e44 (hp.get (j := 7) rfl) rfl rfl ((ints_length _ _).trans lr150) (fun m v hm => by rw [Nat.zero_add]; exact hm) ?_
    refine k_loadA (n := 5) (xs := ints .u64 r15) 0 rfl (by kernel_rfl) (by kernel_rfl) s8_e44 (hp.get (j := 7) rfl) rfl rfl ((ints_length _ _).trans lr150) (fun m v hm => by rw [Nat.zero_add]; exact hm) ?_
    refine k_rest [1, 3, 4, 5] (fun L e w => ∃ g19 : Nat, ∃ c_g19_0 : List Int, (((((L 1 = true → r17.length = 5) ∧ (L 3 = true → r18.length = 5)) ∧ (((e 2 = .pointer (some ⟨g2, 0, none⟩) ∧ e 3 = .pointer (some ⟨g3, 0, none⟩)) ∧ e 6 = .pointer (some ⟨g10, 0, none⟩)) ∧ ((e 8 = .pointer (some ⟨g16, 0, none⟩) ∧ e 31 = .agg (ints .u64 r15).toArray) ∧ e 33 = .agg (ints .u64 r15).toArray))) ∧ ((L 1 = true → e 32 = .agg (ints .u64 r17).toArray) ∧ (L 3 = true → e 34 = .agg (ints .u64 r18).toArray))) ∧ (((L 4 = true → e 9 = .pointer (some ⟨g19, 0, none⟩)) ∧ (L 4 = false → c_g19_0 = ([] : List Int))) ∧ ((L 5 = false → L 4 = true → c_g19_0 = (List.replicate 5 (0 : Int))) ∧ (L 5 = true → c_g19_0 = r18)))) ∧ Hp w0 [] w [⟨g1, 0, ints .u64 a0⟩, ⟨g2, 0, ints .u64 (List.replicate 5 (0 : Int))⟩, ⟨g3, 0, ints .u64 (List.replicate 5 (0 : Int))⟩, ⟨g5, 0, ints .u64 r4⟩, ⟨g8, 0, ints .u64 r7⟩, ⟨g10, 0, ints .u64 r9⟩, ⟨g13, 0, ints .u64 r12⟩, ⟨g16, 0, ints .u64 r15⟩, ⟨g19, 0, ints .u64 c_g19_0⟩] []) (by kernel_rfl) (by kernel_rfl) ?_ ?_ ?_
    have hp := hp.free1 0 0
    · exact ⟨0, ([] : List Int), ⟨⟨⟨⟨(fun h => absurd h (by decide)), (fun h => absurd h (by decide))⟩, ⟨⟨⟨s2_e44, s3_e44⟩, s6_e44⟩, ⟨⟨s8_e44, rfl⟩, rfl⟩⟩⟩, ⟨(fun h => absurd h (by decide)), (fun h => absurd h (by decide))⟩⟩, ⟨⟨(fun h => absurd h (by decide)), (fun _ => rfl)⟩, ⟨(fun _ h => absurd h (by decide)), (fun h => absurd h (by decide))⟩⟩⟩, hp⟩
    · rintro L e w hall ⟨g19, c_g19_0, hF, hp⟩
      have qc_g19_0 := hF.2.2.2 (hall 5 rfl)
      rw [qc_g19_0] at hp
      exact onlyN_i ⟨g19, ⟨⟨⟨(hF.1.1.1.2 (hall 3 rfl)), hF.1.1.2.1.1.1⟩, hF.1.1.2.1.1.2⟩, ⟨⟨hF.1.1.2.1.2, hF.1.1.2.2.1.1⟩, (hF.2.1.1 (hall 4 rfl))⟩⟩, hp⟩
    refine allU_cons ?_ ?_
    · rintro L e w hLi hb hcl ⟨g19, c_g19_0, hF, hp⟩
      refine k_call [.agg (ints .u64 r15).toArray, .int .i64 10] rfl (by kernel_rfl) (args2 hF.1.1.2.2.1.2 rfl) (field_Element_squared_ok k r15 10 lr150 _ (hp.toR (fun _ h => by cases h)) qr17) ?_
      rintro _ w' ⟨_, rfl, rfl, lr170, hpc⟩
      refine ⟨_, rfl, .inr (.of_below hpc.chg.to_below), ?_⟩; have hp := hp.below hpc.chg.to_below; clear hpc
      exact k_done ⟨g19, c_g19_0, ⟨⟨⟨⟨(fun _ => lr170), hF.1.1.1.2⟩, hF.1.1.2⟩, ⟨(fun _ => rfl), hF.1.2.2⟩⟩, hF.2⟩, hp⟩
    refine allU_cons ?_ ?_
    · rintro L e w hLi hb hcl ⟨g19, c_g19_0, hF, hp⟩
      have hL1 := hb 1 (by kernel_rfl)
      have lr170 := hF.1.1.1.1 hL1
      refine k_call [.agg (ints .u64 r17).toArray, .agg (ints .u64 r15).toArray] rfl (by kernel_rfl) (args2 (hF.1.2.1 hL1) hF.1.1.2.2.2) (field_Element_Times_ok r17 r15 lr170 lr150 _ (hp.toR (fun _ h => by cases h)) qr18) ?_
      rintro _ w' ⟨_, rfl, rfl, lr180, hpc⟩
      refine ⟨_, rfl, .inr (.of_below hpc.chg.to_below), ?_⟩; have hp := hp.below hpc.chg.to_below; clear hpc
      exact k_done ⟨g19, c_g19_0, ⟨⟨⟨⟨hF.1.1.1.1, (fun _ => lr180)⟩, hF.1.1.2⟩, ⟨hF.1.2.1, (fun _ => rfl)⟩⟩, hF.2⟩, hp⟩
    refine allU_cons ?_ ?_
    · rintro L e w hLi hb hcl ⟨g19, c_g19_0, hF, hp⟩
      have qc_g19_0 := hF.2.1.2 hLi
      rw [qc_g19_0] at hp
      refine k_allocAt 8 (ints .u64 (List.replicate 5 (0 : Int))) rfl (by kernel_rfl) hp ?_
      intro g19 w hbg19 hp
      exact k_done ⟨g19, (List.replicate 5 (0 : Int)), ⟨hF.1, ⟨⟨(fun _ => rfl), (fun h => nomatch (show true = false from h))⟩, ⟨(fun _ _ => rfl), (fun h => absurd (hLi.symm.trans (hcl 5 4 (by kernel_rfl) h)) (by decide))⟩⟩⟩, hp⟩
    refine allU_cons ?_ allU_nil
    · rintro L e w hLi hb hcl ⟨g19, c_g19_0, hF, hp⟩
      have hL3 := hb 3 (by kernel_rfl)
      have hL4 := hb 4 (by kernel_rfl)
      have lr180 := hF.1.1.1.2 hL3
      have qc_g19_0 := hF.2.2.1 hLi hL4
      rw [qc_g19_0] at hp
      refine k_storeA (v := .agg (ints .u64 r18).toArray) 8 0 (r := ⟨g19, 0, ints .u64 (List.replicate 5 (0 : Int))⟩) (ints .u64 r18) (ints .u64 r18) rfl (n := 5) (by kernel_rfl) (hF.2.1.1 hL4) (hF.1.2.2 hL3) rfl ((ints_length _ _).trans lr180) (ints_one _ _) hp rfl rfl rfl (Nat.le_of_eq ((Nat.zero_add _).trans ((ints_length _ _).trans List.length_replicate).symm)) (setMany_all _ _ (((ints_length _ _).trans lr180).trans ((ints_length _ _).trans List.length_replicate).symm)) (by decide) ?_; intro w hp
      exact k_done ⟨g19, r18, ⟨hF.1, ⟨⟨hF.2.1.1, (fun h => absurd (hL4.symm.trans h) (by decide))⟩, ⟨(fun h _ => nomatch (show true = false from h)), (fun _ => rfl)⟩⟩⟩, hp⟩
  rintro e45 w ⟨g19, hF, hp⟩
  have lr180 := hF.1.1.1
  have s2_e45 := hF.1.1.2
  have s3_e45 := hF.1.2
  have s6_e45 := hF.2.1.1
  have s8_e45 := hF.2.1.2
  have s9_e45 := hF.2.2
  clear hF
  refine wseqP (p0 := [1, 1, 1, 1, 1, 1, 1, 0]) (p1 := [1, 1, 1, 1, 1, 1, 1, 1]) rfl rfl rfl ?_
  obtain ⟨r20, qr20, h⟩ := bd_e h
  obtain ⟨r21, qr21, h⟩ := bd_e h
  refine wcut (fun e46 w2 => ∃ g22 : Nat, (((r21.length = 5 ∧ e46 2 = .pointer (some ⟨g2, 0, none⟩)) ∧ e46 3 = .pointer (some ⟨g3, 0, none⟩)) ∧ ((e46 6 = .pointer (some ⟨g10, 0, none⟩) ∧ e46 8 = .pointer (some ⟨g16, 0, none⟩)) ∧ e46 10 = .pointer (some ⟨g22, 0, none⟩))) ∧ Hp w0 [] w2 [⟨g1, 0, ints .u64 a0⟩, ⟨g2, 0, ints .u64 (List.replicate 5 (0 : Int))⟩, ⟨g3, 0, ints .u64 (List.replicate 5 (0 : Int))⟩, ⟨g5, 0, ints .u64 r4⟩, ⟨g8, 0, ints .u64 r7⟩, ⟨g10, 0, ints .u64 r9⟩, ⟨g13, 0, ints .u64 r12⟩, ⟨g16, 0, ints .u64 r15⟩, ⟨g19, 0, ints .u64 r18⟩, ⟨g22, 0, ints .u64 r21⟩] []) ?_ ?_
  rotate_left
  · refine wregionM field_Element_chain.o8 (.tk 0 (.tk 2 (.rest 5 4))) [5] [(0, 0, 0), (1, 63, 63), (0, 0, 0), (6, 63, 63), (0, 63, 63), (31, 63, 63)] rfl rfl (by kernel_rfl) (by kernel_rfl) (Nat.le_of_ble_eq_true (by kernel_rfl)) (by kernel_rfl) (by kernel_rfl) (by kernel_rfl) ?_
    have hp := hp.drew
    refine k_loadA (n := 5) (xs := ints .u64 r18) 0 rfl (by kernel_rfl) (by kernel_rfl) s9_e45 (hp.get (j := 8) rfl) rfl rfl ((ints_length _ _).trans lr180) (fun m v hm => by rw [Nat.zero_add]; exact hm) ?_
    refine k_loadA (n := 5) (xs := ints .u64 r18) 0 rfl (by kernel_rfl) (by kernel_rfl) s9_e45 (hp.get (j := 8) rfl) rfl rfl ((ints_length _ _).trans lr180) (fun m v hm => by rw [Nat.zero_add]; exact hm) ?_
    refine k_rest [1, 3, 4, 5] (fun L e w => ∃ g22 : Nat, ∃ c_g22_0 : List Int, (((((L 1 = true → r20.length = 5) ∧ (L 3 = true → r21.length = 5)) ∧ (((e 2 = .pointer (some ⟨g2, 0, none⟩) ∧ e 3 = .pointer (some ⟨g3, 0, none⟩)) ∧ e 6 = .pointer (some ⟨g10, 0, none⟩)) ∧ ((e 8 = .pointer (some ⟨g16, 0, none⟩) ∧ e 35 = .agg (ints .u64 r18).toArray) ∧ e 37 = .agg (ints .u64 r18).toArray))) ∧ ((L 1 = true → e 36 = .agg (ints .u64 r20).toArray) ∧ (L 3 = true → e 38 = .agg (ints .u64 r21).toArray))) ∧ (((L 4 = true → e 10 = .pointer (some ⟨g22, 0, none⟩)) ∧ (L 4 = false → c_g22_0 = ([] : List Int))) ∧ ((L 5 = false → L 4 = true → c_g22_0 = (List.replicate 5 (0 : Int))) ∧ (L 5 = true → c_g22_0 = r21)))) ∧ Hp w0 [] w [⟨g1, 0, ints .u64 a0⟩, ⟨g2, 0, ints .u64 (List.replicate 5 (0 : Int))⟩, ⟨g3, 0, ints .u64 (List.replicate 5 (0 : Int))⟩, ⟨g5, 0, ints .u64 r4⟩, ⟨g8, 0, ints .u64 r7⟩, ⟨g10, 0, ints .u64 r9⟩, ⟨g13, 0, ints .u64 r12⟩, ⟨g16, 0, ints .u64 r15⟩, ⟨g19, 0, ints .u64 r18⟩, ⟨g22, 0, ints .u64 c_g22_0⟩] []) (by kernel_rfl) (by kernel_rfl) ?_ ?_ ?_
    have hp := hp.free1 0 0
    · exact ⟨0, ([] : List Int), ⟨⟨⟨⟨(fun h => absurd h (by decide)), (fun h => absurd h (by decide))⟩, ⟨⟨⟨s2_e45, s3_e45⟩, s6_e45⟩, ⟨⟨s8_e45, rfl⟩, rfl⟩⟩⟩, ⟨(fun h => absurd h (by decide)), (fun h => absurd h (by decide))⟩⟩, ⟨⟨(fun h => absurd h (by decide)), (fun _ => rfl)⟩, ⟨(fun _ h => absurd h (by decide)), (fun h => absurd h (by decide))⟩⟩⟩, hp⟩
    · rintro L e w hall ⟨g22, c_g22_0, hF, hp⟩
      have qc_g22_0 := hF.2.2.2 (hall 5 rfl)
      rw [qc_g22_0] at hp
      exact onlyN_i ⟨g22, ⟨⟨⟨(hF.1.1.1.2 (hall 3 rfl)), hF.1.1.2.1.1.1⟩, hF.1.1.2.1.1.2⟩, ⟨⟨hF.1.1.2.1.2, hF.1.1.2.2.1.1⟩, (hF.2.1.1 (hall 4 rfl))⟩⟩, hp⟩
    refine allU_cons ?_ ?_
    · rintro L e w hLi hb hcl ⟨g22, c_g22_0, hF, hp⟩
      refine k_call [.agg (ints .u64 r18).toArray, .int .i64 20] rfl (by kernel_rfl) (args2 hF.1.1.2.2.1.2 rfl) (field_Element_squared_ok k r18 20 lr180 _ (hp.toR (fun _ h => by cases h)) qr20) ?_
      rintro _ w' ⟨_, rfl, rfl, lr200, hpc⟩
      refine ⟨_, rfl, .inr (.of_below hpc.chg.to_below), ?_⟩; have hp := hp.below hpc.chg.to_below; clear hpc
      exact k_done ⟨g22, c_g22_0, ⟨⟨⟨⟨(fun _ => lr200), hF.1.1.1.2⟩, hF.1.1.2⟩, ⟨(fun _ => rfl), hF.1.2.2⟩⟩, hF.2⟩, hp⟩
    refine allU_cons ?_ ?_
    · rintro L e w hLi hb hcl ⟨g22, c_g22_0, hF, hp⟩
      have hL1 := hb 1 (by kernel_rfl)
      have lr200 := hF.1.1.1.1 hL1
      refine k_call [.agg (ints .u64 r20).toArray, .agg (ints .u64 r18).toArray] rfl (by kernel_rfl) (args2 (hF.1.2.1 hL1) hF.1.1.2.2.2) (field_Element_Times_ok r20 r18 lr200 lr180 _ (hp.toR (fun _ h => by cases h)) qr21) ?_
      rintro _ w' ⟨_, rfl, rfl, lr210, hpc⟩
      refine ⟨_, rfl, .inr (.of_below hpc.chg.to_below), ?_⟩; have hp := hp.below hpc.chg.to_below; clear hpc
      exact k_done ⟨g22, c_g22_0, ⟨⟨⟨⟨hF.1.1.1.1, (fun _ => lr210)⟩, hF.1.1.2⟩, ⟨hF.1.2.1, (fun _ => rfl)⟩⟩, hF.2⟩, hp⟩
    refine allU_cons ?_ ?_
    · rintro L e w hLi hb hcl ⟨g22, c_g22_0, hF, hp⟩
      have qc_g22_0 := hF.2.1.2 hLi
      rw [qc_g22_0] at hp
      refine k_allocAt 9 (ints .u64 (List.replicate 5 (0 : Int))) rfl (by kernel_rfl) hp ?_
      intro g22 w hbg22 hp
      exact k_done ⟨g22, (List.replicate 5 (0 : Int)), ⟨hF.1, ⟨⟨(fun _ => rfl), (fun h => nomatch (show true = false from h))⟩, ⟨(fun _ _ => rfl), (fun h => absurd (hLi.symm.trans (hcl 5 4 (by kernel_rfl) h)) (by decide))⟩⟩⟩, hp⟩
    refine allU_cons ?_ allU_nil
    · rintro L e w hLi hb hcl ⟨g22, c_g22_0, hF, hp⟩
      have hL3 := hb 3 (by kernel_rfl)
      have hL4 := hb 4 (by kernel_rfl)
      have lr210 := hF.1.1.1.2 hL3
      have qc_g22_0 := hF.2.2.1 hLi hL4
      rw [qc_g22_0] at hp
      refine k_storeA (v := .agg (ints .u64 r21).toArray) 9 0 (r := ⟨g22, 0, ints .u64 (List.replicate 5 (0 : Int))⟩) (ints .u64 r21) (ints .u64 r21) rfl (n := 5) (by kernel_rfl) (hF.2.1.1 hL4) (hF.1.2.2 hL3) rfl ((ints_length _ _).trans lr210) (ints_one _ _) hp rfl rfl rfl (Nat.le_of_eq ((Nat.zero_add _).trans ((ints_length _ _).trans List.length_replicate).symm)) (setMany_all _ _ (((ints_length _ _).trans lr210).trans ((ints_length _ _).trans List.length_replicate).symm)) (by decide) ?_; intro w hp
      exact k_done ⟨g22, r21, ⟨hF.1, ⟨⟨hF.2.1.1, (fun h => absurd (hL4.symm.trans h) (by decide))⟩, ⟨(fun h _ => nomatch (show true = false from h)), (fun _ => rfl)⟩⟩⟩, hp⟩
  rintro e46 w ⟨g22, hF, hp⟩
  have lr210 := hF.1.1.1
  have s2_e46 := hF.1.1.2
  have s3_e46 := hF.1.2
  have s6_e46 := hF.2.1.1
  have s8_e46 := hF.2.1.2
  have s10_e46 := hF.2.2
  clear hF
  refine wseqP (p0 := [1, 1, 1, 1, 1, 1, 1, 1, 0]) (p1 := [1, 1, 1, 1, 1, 1, 1, 1, 1]) rfl rfl rfl ?_
  obtain ⟨r23, qr23, h⟩ := bd_e h
  obtain ⟨r24, qr24, h⟩ := bd_e h
  refine wcut (fun e47 w2 => ∃ g25 : Nat, (((r24.length = 5 ∧ e47 2 = .pointer (some ⟨g2, 0, none⟩)) ∧ e47 3 = .pointer (some ⟨g3, 0, none⟩)) ∧ (e47 6 = .pointer (some ⟨g10, 0, none⟩) ∧ e47 11 = .pointer (some ⟨g25, 0, none⟩))) ∧ Hp w0 [] w2 [⟨g1, 0, ints .u64 a0⟩, ⟨g2, 0, ints .u64 (List.replicate 5 (0 : Int))⟩, ⟨g3, 0, ints .u64 (List.replicate 5 (0 : Int))⟩, ⟨g5, 0, ints .u64 r4⟩, ⟨g8, 0, ints .u64 r7⟩, ⟨g10, 0, ints .u64 r9⟩, ⟨g13, 0, ints .u64 r12⟩, ⟨g16, 0, ints .u64 r15⟩, ⟨g19, 0, ints .u64 r18⟩, ⟨g22, 0, ints .u64 r21⟩, ⟨g25, 0, ints .u64 r24⟩] []) ?_ ?_
  rotate_left
  · refine wregionM field_Element_chain.o9 (.tk 0 (.tk 2 (.rest 5 4))) [5] [(0, 0, 0), (1, 63, 63), (0, 0, 0), (6, 63, 63), (0, 63, 63), (31, 63, 63)] rfl rfl (by kernel_rfl) (by kernel_rfl) (Nat.le_of_ble_eq_true (by kernel_rfl)) (by kernel_rfl) (by kernel_rfl) (by kernel_rfl) ?_
    have hp := hp.drew
    refine k_loadA (n := 5) (xs := ints .u64 r21) 0 rfl (by kernel_rfl) (by kernel_rfl) s10_e46 (hp.get (j := 9) rfl) rfl rfl ((ints_length _ _).trans lr210) (fun m v hm => by rw [Nat.zero_add]; exact hm) ?_
    refine k_loadA (n := 5) (xs := ints .u64 r15) 0 rfl (by kernel_rfl) (by kernel_rfl) s8_e46 (hp.get (j := 7) rfl) rfl rfl ((ints_length _ _).trans lr150) (fun m v hm => by rw [Nat.zero_add]; exact hm) ?_
    refine k_rest [1, 3, 4, 5] (fun L e w => ∃ g25 : Nat, ∃ c_g25_0 : List Int, (((((L 1 = true → r23.length = 5) ∧ (L 3 = true → r24.length = 5)) ∧ (((e 2 = .pointer (some ⟨g2, 0, none⟩) ∧ e 3 = .pointer (some ⟨g3, 0, none⟩)) ∧ e 6 = .pointer (some ⟨g10, 0, none⟩)) ∧ (e 39 = .agg (ints .u64 r21).toArray ∧ e 41 = .agg (ints .u64 r15).toArray))) ∧ ((L 1 = true → e 40 = .agg (ints .u64 r23).toArray) ∧ (L 3 = true → e 42 = .agg (ints .u64 r24).toArray))) ∧ (((L 4 = true → e 11 = .pointer (some ⟨g25, 0, none⟩)) ∧ (L 4 = false → c_g25_0 = ([] : List Int))) ∧ ((L 5 = false → L 4 = true → c_g25_0 = (List.replicate 5 (0 : Int))) ∧ (L 5 = true → c_g25_0 = r24)))) ∧ Hp w0 [] w [⟨g1, 0, ints .u64 a0⟩, ⟨g2, 0, ints .u64 (List.replicate 5 (0 : Int))⟩, ⟨g3, 0, ints .u64 (List.replicate 5 (0 : Int))⟩, ⟨g5, 0, ints .u64 r4⟩, ⟨g8, 0, ints .u64 r7⟩, ⟨g10, 0, ints .u64 r9⟩, ⟨g13, 0, ints .u64 r12⟩, ⟨g16, 0, ints .u64 r15⟩, ⟨g19, 0, ints .u64 r18⟩, ⟨g22, 0, ints .u64 r21⟩, ⟨g25, 0, ints .u64 c_g25_0⟩] []) (by kernel_rfl) (by kernel_rfl) ?_ ?_ ?_
    have hp := hp.free1 0 0
    · exact ⟨0, ([] : List Int), ⟨⟨⟨⟨(fun h => absurd h (by decide)), (fun h => absurd h (by decide))⟩, ⟨⟨⟨s2_e46, s3_e46⟩, s6_e46⟩, ⟨rfl, rfl⟩⟩⟩, ⟨(fun h => absurd h (by decide)), (fun h => absurd h (by decide))⟩⟩, ⟨⟨(fun h => absurd h (by decide)), (fun _ => rfl)⟩, ⟨(fun _ h => absurd h (by decide)), (fun h => absurd h (by decide))⟩⟩⟩, hp⟩
    · rintro L e w hall ⟨g25, c_g25_0, hF, hp⟩
      have qc_g25_0 := hF.2.2.2 (hall 5 rfl)
      rw [qc_g25_0] at hp
      exact onlyN_i ⟨g25, ⟨⟨⟨(hF.1.1.1.2 (hall 3 rfl)), hF.1.1.2.1.1.1⟩, hF.1.1.2.1.1.2⟩, ⟨hF.1.1.2.1.2, (hF.2.1.1 (hall 4 rfl))⟩⟩, hp⟩
    refine allU_cons ?_ ?_
    · rintro L e w hLi hb hcl ⟨g25, c_g25_0, hF, hp⟩
      refine k_call [.agg (ints .u64 r21).toArray, .int .i64 10] rfl (by kernel_rfl) (args2 hF.1.1.2.2.1 rfl) (field_Element_squared_ok k r21 10 lr210 _ (hp.toR (fun _ h => by cases h)) qr23) ?_
      rintro _ w' ⟨_, rfl, rfl, lr230, hpc⟩
      refine ⟨_, rfl, .inr (.of_below hpc.chg.to_below), ?_⟩; have hp := hp.below hpc.chg.to_below; clear hpc
      exact k_done ⟨g25, c_g25_0, ⟨⟨⟨⟨(fun _ => lr230), hF.1.1.1.2⟩, hF.1.1.2⟩, ⟨(fun _ => rfl), hF.1.2.2⟩⟩, hF.2⟩, hp⟩
    refine allU_cons ?_ ?_
    · rintro L e w hLi hb hcl ⟨g25, c_g25_0, hF, hp⟩
      have hL1 := hb 1 (by kernel_rfl)
      have lr230 := hF.1.1.1.1 hL1
      refine k_call [.agg (ints .u64 r23).toArray, .agg (ints .u64 r15).toArray] rfl (by kernel_rfl) (args2 (hF.1.2.1 hL1) hF.1.1.2.2.2) (field_Element_Times_ok r23 r15 lr230 lr150 _ (hp.toR (fun _ h => by cases h)) qr24) ?_
      rintro _ w' ⟨_, rfl, rfl, lr240, hpc⟩
      refine ⟨_, rfl, .inr (.of_below hpc.chg.to_below), ?_⟩; have hp := hp.below hpc.chg.to_below; clear hpc
      exact k_done ⟨g25, c_g25_0, ⟨⟨⟨⟨hF.1.1.1.1, (fun _ => lr240)⟩, hF.1.1.2⟩, ⟨hF.1.2.1, (fun _ => rfl)⟩⟩, hF.2⟩, hp⟩
    refine allU_cons ?_ ?_
    · rintro L e w hLi hb hcl ⟨g25, c_g25_0, hF, hp⟩
      have qc_g25_0 := hF.2.1.2 hLi
      rw [qc_g25_0] at hp
      refine k_allocAt 10 (ints .u64 (List.replicate 5 (0 : Int))) rfl (by kernel_rfl) hp ?_
      intro g25 w hbg25 hp
      exact k_done ⟨g25, (List.replicate 5 (0 : Int)), ⟨hF.1, ⟨⟨(fun _ => rfl), (fun h => nomatch (show true = false from h))⟩, ⟨(fun _ _ => rfl), (fun h => absurd (hLi.symm.trans (hcl 5 4 (by kernel_rfl) h)) (by decide))⟩⟩⟩, hp⟩
    refine allU_cons ?_ allU_nil
    · rintro L e w hLi hb hcl ⟨g25, c_g25_0, hF, hp⟩
      have hL3 := hb 3 (by kernel_rfl)
      have hL4 := hb 4 (by kernel_rfl)
      have lr240 := hF.1.1.1.2 hL3
      have qc_g25_0 := hF.2.2.1 hLi hL4
      rw [qc_g25_0] at hp
      refine k_storeA (v := .agg (ints .u64 r24).toArray) 10 0 (r := ⟨g25, 0, ints .u64 (List.replicate 5 (0 : Int))⟩) (ints .u64 r24) (ints .u64 r24) rfl (n := 5) (by kernel_rfl) (hF.2.1.1 hL4) (hF.1.2.2 hL3) rfl ((ints_length _ _).trans lr240) (ints_one _ _) hp rfl rfl rfl (Nat.le_of_eq ((Nat.zero_add _).trans ((ints_length _ _).trans List.length_replicate).symm)) (setMany_all _ _ (((ints_length _ _).trans lr240).trans ((ints_length _ _).trans List.length_replicate).symm)) (by decide) ?_; intro w hp
      exact k_done ⟨g25, r24, ⟨hF.1, ⟨⟨hF.2.1.1, (fun h => absurd (hL4.symm.trans h) (by decide))⟩, ⟨(fun h _ => nomatch (show true = false from h)), (fun _ => rfl)⟩⟩⟩, hp⟩
  rintro e47 w ⟨g25, hF, hp⟩
  have lr240 := hF.1.1.1
  have s2_e47 := hF.1.1.2
  have s3_e47 := hF.1.2
  have s6_e47 := hF.2.1
  have s11_e47 := hF.2.2
  clear hF
  refine wseqP (p0 := [1, 1, 1, 1, 1, 1, 1, 1, 1, 0]) (p1 := [1, 1, 1, 1, 1, 1, 1, 1, 1, 1]) rfl rfl rfl ?_
  obtain ⟨r26, qr26, h⟩ := bd_e h
  obtain ⟨r27, qr27, h⟩ := bd_e h
  refine wcut (fun e48 w2 => ∃ g28 : Nat, (((r27.length = 5 ∧ e48 2 = .pointer (some ⟨g2, 0, none⟩)) ∧ e48 3 = .pointer (some ⟨g3, 0, none⟩)) ∧ ((e48 6 = .pointer (some ⟨g10, 0, none⟩) ∧ e48 11 = .pointer (some ⟨g25, 0, none⟩)) ∧ e48 12 = .pointer (some ⟨g28, 0, none⟩))) ∧ Hp w0 [] w2 [⟨g1, 0, ints .u64 a0⟩, ⟨g2, 0, ints .u64 (List.replicate 5 (0 : Int))⟩, ⟨g3, 0, ints .u64 (List.replicate 5 (0 : Int))⟩, ⟨g5, 0, ints .u64 r4⟩, ⟨g8, 0, ints .u64 r7⟩, ⟨g10, 0, ints .u64 r9⟩, ⟨g13, 0, ints .u64 r12⟩, ⟨g16, 0, ints .u64 r15⟩, ⟨g19, 0, ints .u64 r18⟩, ⟨g22, 0, ints .u64 r21⟩, ⟨g25, 0, ints .u64 r24⟩, ⟨g28, 0, ints .u64 r27⟩] []) ?_ ?_
  rotate_left
  · refine wregionM field_Element_chain.o10 (.tk 0 (.tk 2 (.rest 5 4))) [5] [(0, 0, 0), (1, 63, 63), (0, 0, 0), (6, 63, 63), (0, 63, 63), (31, 63, 63)] rfl rfl (by kernel_rfl) (by kernel_rfl) (Nat.le_of_ble_eq_true (by kernel_rfl)) (by kernel_rfl) (by kernel_rfl) (by kernel_rfl) ?_
    have hp := hp.drew
    refine k_loadA (n := 5) (xs := ints .u64 r24) 0 rfl (by kernel_rfl) (by kernel_rfl) s11_e47 (hp.get (j := 10) rfl) rfl rfl ((ints_length _ _).trans lr240) (fun m v hm => by rw [Nat.zero_add]; exact hm) ?_
    refine k_loadA (n := 5) (xs := ints .u64 r24) 0 rfl (by kernel_rfl) (by kernel_rfl) s11_e47 (hp.get (j := 10) rfl) rfl rfl ((ints_length _ _).trans lr240) (fun m v hm => by rw [Nat.zero_add]; exact hm) ?_
    refine k_rest [1, 3, 4, 5] (fun L e w => ∃ g28 : Nat, ∃ c_g28_0 : List Int, (((((L 1 = true → r26.length = 5) ∧ (L 3 = true → r27.length = 5)) ∧ (((e 2 = .pointer (some ⟨g2, 0, none⟩) ∧ e 3 = .pointer (some ⟨g3, 0, none⟩)) ∧ e 6 = .pointer (some ⟨g10, 0, none⟩)) ∧ ((e 11 = .pointer (some ⟨g25, 0, none⟩) ∧ e 43 = .agg (ints .u64 r24).toArray) ∧ e 45 = .agg (ints .u64 r24).toArray))) ∧ ((L 1 = true → e 44 = .agg (ints .u64 r26).toArray) ∧ (L 3 = true → e 46 = .agg (ints .u64 r27).toArray))) ∧ (((L 4 = true → e 12 = .pointer (some ⟨g28, 0, none⟩)) ∧ (L 4 = false → c_g28_0 = ([] : List Int))) ∧ ((L 5 = false → L 4 = true → c_g28_0 = (List.replicate 5 (0 : Int))) ∧ (L 5 = true → c_g28_0 = r27)))) ∧ Hp w0 [] w [⟨g1, 0, ints .u64 a0⟩, ⟨g2, 0, ints .u64 (List.replicate 5 (0 : Int))⟩, ⟨g3, 0, ints .u64 (List.replicate 5 (0 : Int))⟩, ⟨g5, 0, ints .u64 r4⟩, ⟨g8, 0, ints .u64 r7⟩, ⟨g10, 0, ints .u64 r9⟩, ⟨g13, 0, ints .u64 r12⟩, ⟨g16, 0, ints .u64 r15⟩, ⟨g19, 0, ints .u64 r18⟩, ⟨g22, 0, ints .u64 r21⟩, ⟨g25, 0, ints .u64 r24⟩, ⟨g28, 0, ints .u64 c_g28_0⟩] []) (by kernel_rfl) (by kernel_rfl) ?_ ?_ ?_
    have hp := hp.free1 0 0
    · exact ⟨0, ([] : List Int), ⟨⟨⟨⟨(fun h => absurd h (by decide)), (fun h => absurd h (by decide))⟩, ⟨⟨⟨s2_e47, s3_e47⟩, s6_e47⟩, ⟨⟨s11_e47, rfl⟩, rfl⟩⟩⟩, ⟨(fun h => absurd h (by decide)), (fun h => absurd h (by decide))⟩⟩, ⟨⟨(fun h => absurd h (by decide)), (fun _ => rfl)⟩, ⟨(fun _ h => absurd h (by decide)), (fun h => absurd h (by decide))⟩⟩⟩, hp⟩
    · rintro L e w hall ⟨g28, c_g28_0, hF, hp⟩
      have qc_g28_0 := hF.2.2.2 (hall 5 rfl)
      rw [qc_g28_0] at hp
      exact onlyN_i ⟨g28, ⟨⟨⟨(hF.1.1.1.2 (hall 3 rfl)), hF.1.1.2.1.1.1⟩, hF.1.1.2.1.1.2⟩, ⟨⟨hF.1.1.2.1.2, hF.1.1.2.2.1.1⟩, (hF.2.1.1 (hall 4 rfl))⟩⟩, hp⟩
    refine allU_cons ?_ ?_
    · rintro L e w hLi hb hcl ⟨g28, c_g28_0, hF, hp⟩
      refine k_call [.agg (ints .u64 r24).toArray, .int .i64 50] rfl (by kernel_rfl) (args2 hF.1.1.2.2.1.2 rfl) (field_Element_squared_ok k r24 50 lr240 _ (hp.toR (fun _ h => by cases h)) qr26) ?_
      rintro _ w' ⟨_, rfl, rfl, lr260, hpc⟩
      refine ⟨_, rfl, .inr (.of_below hpc.chg.to_below), ?_⟩; have hp := hp.below hpc.chg.to_below; clear hpc
      exact k_done ⟨g28, c_g28_0, ⟨⟨⟨⟨(fun _ => lr260), hF.1.1.1.2⟩, hF.1.1.2⟩, ⟨(fun _ => rfl), hF.1.2.2⟩⟩, hF.2⟩, hp⟩
    refine allU_cons ?_ ?_
    · rintro L e w hLi hb hcl ⟨g28, c_g28_0, hF, hp⟩
      have hL1 := hb 1 (by kernel_rfl)
      have lr260 := hF.1.1.1.1 hL1
      refine k_call [.agg (ints .u64 r26).toArray, .agg (ints .u64 r24).toArray] rfl (by kernel_rfl) (args2 (hF.1.2.1 hL1) hF.1.1.2.2.2) (field_Element_Times_ok r26 r24 lr260 lr240 _ (hp.toR (fun _ h => by cases h)) qr27) ?_
      rintro _ w' ⟨_, rfl, rfl, lr270, hpc⟩
      refine ⟨_, rfl, .inr (.of_below hpc.chg.to_below), ?_⟩; have hp := hp.below hpc.chg.to_below; clear hpc
      exact k_done ⟨g28, c_g28_0, ⟨⟨⟨⟨hF.1.1.1.1, (fun _ => lr270)⟩, hF.1.1.2⟩, ⟨hF.1.2.1, (fun _ => rfl)⟩⟩, hF.2⟩, hp⟩
    refine allU_cons ?_ ?_
    · rintro L e w hLi hb hcl ⟨g28, c_g28_0, hF, hp⟩
      have qc_g28_0 := hF.2.1.2 hLi
      rw [qc_g28_0] at hp
      refine k_allocAt 11 (ints .u64 (List.replicate 5 (0 : Int))) rfl (by kernel_rfl) hp ?_
      intro g28 w hbg28 hp
      exact k_done ⟨g28, (List.replicate 5 (0 : Int)), ⟨hF.1, ⟨⟨(fun _ => rfl), (fun h => nomatch (show true = false from h))⟩, ⟨(fun _ _ => rfl), (fun h => absurd (hLi.symm.trans (hcl 5 4 (by kernel_rfl) h)) (by decide))⟩⟩⟩, hp⟩
    refine allU_cons ?_ allU_nil
    · rintro L e w hLi hb hcl ⟨g28, c_g28_0, hF, hp⟩
      have hL3 := hb 3 (by kernel_rfl)
      have hL4 := hb 4 (by kernel_rfl)
      have lr270 := hF.1.1.1.2 hL3
      have qc_g28_0 := hF.2.2.1 hLi hL4
      rw [qc_g28_0] at hp
      refine k_storeA (v := .agg (ints .u64 r27).toArray) 11 0 (r := ⟨g28, 0, ints .u64 (List.replicate 5 (0 : Int))⟩) (ints .u64 r27) (ints .u64 r27) rfl (n := 5) (by kernel_rfl) (hF.2.1.1 hL4) (hF.1.2.2 hL3) rfl ((ints_length _ _).trans lr270) (ints_one _ _) hp rfl rfl rfl (Nat.le_of_eq ((Nat.zero_add _).trans ((ints_length _ _).trans List.length_replicate).symm)) (setMany_all _ _ (((ints_length _ _).trans lr270).trans ((ints_length _ _).trans List.length_replicate).symm)) (by decide) ?_; intro w hp
      exact k_done ⟨g28, r27, ⟨hF.1, ⟨⟨hF.2.1.1, (fun h => absurd (hL4.symm.trans h) (by decide))⟩, ⟨(fun h _ => nomatch (show true = false from h)), (fun _ => rfl)⟩⟩⟩, hp⟩
  rintro e48 w ⟨g28, hF, hp⟩
  have lr270 := hF.1.1.1
  have s2_e48 := hF.1.1.2
  have s3_e48 := hF.1.2
  have s6_e48 := hF.2.1.1
  have s11_e48 := hF.2.1.2
  have s12_e48 := hF.2.2
  clear hF
  refine wseqP (p0 := [1, 1, 1, 1, 1, 1, 1, 1, 1, 1, 0]) (p1 := [1, 1, 1, 1, 1, 1, 1, 1, 1, 1, 1]) rfl rfl rfl ?_
  obtain ⟨r29, qr29, h⟩ := bd_e h
  obtain ⟨r30, qr30, h⟩ := bd_e h
  refine wcut (fun e49 w2 => ∃ g31 : Nat, (((r30.length = 5 ∧ e49 2 = .pointer (some ⟨g2, 0, none⟩)) ∧ e49 3 = .pointer (some ⟨g3, 0, none⟩)) ∧ ((e49 6 = .pointer (some ⟨g10, 0, none⟩) ∧ e49 11 = .pointer (some ⟨g25, 0, none⟩)) ∧ e49 13 = .pointer (some ⟨g31, 0, none⟩))) ∧ Hp w0 [] w2 [⟨g1, 0, ints .u64 a0⟩, ⟨g2, 0, ints .u64 (List.replicate 5 (0 : Int))⟩, ⟨g3, 0, ints .u64 (List.replicate 5 (0 : Int))⟩, ⟨g5, 0, ints .u64 r4⟩, ⟨g8, 0, ints .u64 r7⟩, ⟨g10, 0, ints .u64 r9⟩, ⟨g13, 0, ints .u64 r12⟩, ⟨g16, 0, ints .u64 r15⟩, ⟨g19, 0, ints .u64 r18⟩, ⟨g22, 0, ints .u64 r21⟩, ⟨g25, 0, ints .u64 r24⟩, ⟨g28, 0, ints .u64 r27⟩, ⟨g31, 0, ints .u64 r30⟩] []) ?_ ?_
  rotate_left
  · refine wregionM field_Element_chain.o11 (.tk 0 (.tk 2 (.rest 5 4))) [5] [(0, 0, 0), (1, 63, 63), (0, 0, 0), (6, 63, 63), (0, 63, 63), (31, 63, 63)] rfl rfl (by kernel_rfl) (by kernel_rfl) (Nat.le_of_ble_eq_true (by kernel_rfl)) (by kernel_rfl) (by kernel_rfl) (by kernel_rfl) ?_
    have hp := hp.drew
    refine k_loadA (n := 5) (xs := ints .u64 r27) 0 rfl (by kernel_rfl) (by kernel_rfl) s12_e48 (hp.get (j := 11) rfl) rfl rfl ((ints_length _ _).trans lr270) (fun m v hm => by rw [Nat.zero_add]; exact hm) ?_
    refine k_loadA (n := 5) (xs := ints .u64 r27) 0 rfl (by kernel_rfl) (by kernel_rfl) s12_e48 (hp.get (j := 11) rfl) rfl rfl ((ints_length _ _).trans lr270) (fun m v hm => by rw [Nat.zero_add]; exact hm) ?_
    refine k_rest [1, 3, 4, 5] (fun L e w => ∃ g31 : Nat, ∃ c_g31_0 : List Int, (((((L 1 = true → r29.length = 5) ∧ (L 3 = true → r30.length = 5)) ∧ (((e 2 = .pointer (some ⟨g2, 0, none⟩) ∧ e 3 = .pointer (some ⟨g3, 0, none⟩)) ∧ e 6 = .pointer (some ⟨g10, 0, none⟩)) ∧ ((e 11 = .pointer (some ⟨g25, 0, none⟩) ∧ e 47 = .agg (ints .u64 r27).toArray) ∧ e 49 = .agg (ints .u64 r27).toArray))) ∧ ((L 1 = true → e 48 = .agg (ints .u64 r29).toArray) ∧ (L 3 = true → e 50 = .agg (ints .u64 r30).toArray))) ∧ (((L 4 = true → e 13 = .pointer (some ⟨g31, 0, none⟩)) ∧ (L 4 = false → c_g31_0 = ([] : List Int))) ∧ ((L 5 = false → L 4 = true → c_g31_0 = (List.replicate 5 (0 : Int))) ∧ (L 5 = true → c_g31_0 = r30)))) ∧ Hp w0 [] w [⟨g1, 0, ints .u64 a0⟩, ⟨g2, 0, ints .u64 (List.replicate 5 (0 : Int))⟩, ⟨g3, 0, ints .u64 (List.replicate 5 (0 : Int))⟩, ⟨g5, 0, ints .u64 r4⟩, ⟨g8, 0, ints .u64 r7⟩, ⟨g10, 0, ints .u64 r9⟩, ⟨g13, 0, ints .u64 r12⟩, ⟨g16, 0, ints .u64 r15⟩, ⟨g19, 0, ints .u64 r18⟩, ⟨g22, 0, ints .u64 r21⟩, ⟨g25, 0, ints .u64 r24⟩, ⟨g28, 0, ints .u64 r27⟩, ⟨g31, 0, ints .u64 c_g31_0⟩] []) (by kernel_rfl) (by kernel_rfl) ?_ ?_ ?_
    have hp := hp.free1 0 0
    · exact ⟨0, ([] : List Int), ⟨⟨⟨⟨(fun h => absurd h (by decide)), (fun h => absurd h (by decide))⟩, ⟨⟨⟨s2_e48, s3_e48⟩, s6_e48⟩, ⟨⟨s11_e48, rfl⟩, rfl⟩⟩⟩, ⟨(fun h => absurd h (by decide)), (fun h => absurd h (by decide))⟩⟩, ⟨⟨(fun h => absurd h (by decide)), (fun _ => rfl)⟩, ⟨(fun _ h => absurd h (by decide)), (fun h => absurd h (by decide))⟩⟩⟩, hp⟩
    · rintro L e w hall ⟨g31, c_g31_0, hF, hp⟩
      have qc_g31_0 := hF.2.2.2 (hall 5 rfl)
      rw [qc_g31_0] at hp
      exact onlyN_i ⟨g31, ⟨⟨⟨(hF.1.1.1.2 (hall 3 rfl)), hF.1.1.2.1.1.1⟩, hF.1.1.2.1.1.2⟩, ⟨⟨hF.1.1.2.1.2, hF.1.1.2.2.1.1⟩, (hF.2.1.1 (hall 4 rfl))⟩⟩, hp⟩
    refine allU_cons ?_ ?_
    · rintro L e w hLi hb hcl ⟨g31, c_g31_0, hF, hp⟩
      refine k_call [.agg (ints .u64 r27).toArray, .int .i64 100] rfl (by kernel_rfl) (args2 hF.1.1.2.2.1.2 rfl) (field_Element_squared_ok k r27 100 lr270 _ (hp.toR (fun _ h => by cases h)) qr29) ?_
      rintro _ w' ⟨_, rfl, rfl, lr290, hpc⟩
      refine ⟨_, rfl, .inr (.of_below hpc.chg.to_below), ?_⟩; have hp := hp.below hpc.chg.to_below; clear hpc
      exact k_done ⟨g31, c_g31_0, ⟨⟨⟨⟨(fun _ => lr290), hF.1.1.1.2⟩, hF.1.1.2⟩, ⟨(fun _ => rfl), hF.1.2.2⟩⟩, hF.2⟩, hp⟩
    refine allU_cons ?_ ?_
    · rintro L e w hLi hb hcl ⟨g31, c_g31_0, hF, hp⟩
      have hL1 := hb 1 (by kernel_rfl)
      have lr290 := hF.1.1.1.1 hL1
      refine k_call [.agg (ints .u64 r29).toArray, .agg (ints .u64 r27).toArray] rfl (by kernel_rfl) (args2 (hF.1.2.1 hL1) hF.1.1.2.2.2) (field_Element_Times_ok r29 r27 lr290 lr270 _ (hp.toR (fun _ h => by cases h)) qr30) ?_
      rintro _ w' ⟨_, rfl, rfl, lr300, hpc⟩
      refine ⟨_, rfl, .inr (.of_below hpc.chg.to_below), ?_⟩; have hp := hp.below hpc.chg.to_below; clear hpc
      exact k_done ⟨g31, c_g31_0, ⟨⟨⟨⟨hF.1.1.1.1, (fun _ => lr300)⟩, hF.1.1.2⟩, ⟨hF.1.2.1, (fun _ => rfl)⟩⟩, hF.2⟩, hp⟩
    refine allU_cons ?_ ?_
    · rintro L e w hLi hb hcl ⟨g31, c_g31_0, hF, hp⟩
      have qc_g31_0 := hF.2.1.2 hLi
      rw [qc_g31_0] at hp
      refine k_allocAt 12 (ints .u64 (List.replicate 5 (0 : Int))) rfl (by kernel_rfl) hp ?_
      intro g31 w hbg31 hp
      exact k_done ⟨g31, (List.replicate 5 (0 : Int)), ⟨hF.1, ⟨⟨(fun _ => rfl), (fun h => nomatch (show true = false from h))⟩, ⟨(fun _ _ => rfl), (fun h => absurd (hLi.symm.trans (hcl 5 4 (by kernel_rfl) h)) (by decide))⟩⟩⟩, hp⟩
    refine allU_cons ?_ allU_nil
    · rintro L e w hLi hb hcl ⟨g31, c_g31_0, hF, hp⟩
      have hL3 := hb 3 (by kernel_rfl)
      have hL4 := hb 4 (by kernel_rfl)
      have lr300 := hF.1.1.1.2 hL3
      have qc_g31_0 := hF.2.2.1 hLi hL4
      rw [qc_g31_0] at hp
      refine k_storeA (v := .agg (ints .u64 r30).toArray) 12 0 (r := ⟨g31, 0, ints .u64 (List.replicate 5 (0 : Int))⟩) (ints .u64 r30) (ints .u64 r30) rfl (n := 5) (by kernel_rfl) (hF.2.1.1 hL4) (hF.1.2.2 hL3) rfl ((ints_length _ _).trans lr300) (ints_one _ _) hp rfl rfl rfl (Nat.le_of_eq ((Nat.zero_add _).trans ((ints_length _ _).trans List.length_replicate).symm)) (setMany_all _ _ (((ints_length _ _).trans lr300).trans ((ints_length _ _).trans List.length_replicate).symm)) (by decide) ?_; intro w hp
      exact k_done ⟨g31, r30, ⟨hF.1, ⟨⟨hF.2.1.1, (fun h => absurd (hL4.symm.trans h) (by decide))⟩, ⟨(fun h _ => nomatch (show true = false from h)), (fun _ => rfl)⟩⟩⟩, hp⟩
  rintro e49 w ⟨g31, hF, hp⟩
  have lr300 := hF.1.1.1
  have s2_e49 := hF.1.1.2
  have s3_e49 := hF.1.2
  have s6_e49 := hF.2.1.1
  have s11_e49 := hF.2.1.2
  have s13_e49 := hF.2.2
  clear hF
  refine wseqP (p0 := [1, 1, 1, 1, 1, 1, 1, 1, 1, 1, 1, 0]) (p1 := [1, 1, 1, 1, 1, 1, 1, 1, 1, 1, 1, 1]) rfl rfl rfl ?_
  obtain ⟨r32, qr32, h⟩ := bd_e h
  obtain ⟨r33, qr33, h⟩ := bd_e h
  refine wcut (fun e50 w2 => ((r33.length = 5 ∧ e50 2 = .pointer (some ⟨g2, 0, none⟩)) ∧ e50 3 = .pointer (some ⟨g3, 0, none⟩)) ∧ Hp w0 [] w2 [⟨g1, 0, ints .u64 a0⟩, ⟨g2, 0, ints .u64 r33⟩, ⟨g3, 0, ints .u64 r9⟩, ⟨g5, 0, ints .u64 r4⟩, ⟨g8, 0, ints .u64 r7⟩, ⟨g10, 0, ints .u64 r9⟩, ⟨g13, 0, ints .u64 r12⟩, ⟨g16, 0, ints .u64 r15⟩, ⟨g19, 0, ints .u64 r18⟩, ⟨g22, 0, ints .u64 r21⟩, ⟨g25, 0, ints .u64 r24⟩, ⟨g28, 0, ints .u64 r27⟩, ⟨g31, 0, ints .u64 r30⟩] []) ?_ ?_
  rotate_left
  · refine wregionM field_Element_chain.o12 (.tk 0 (.tk 2 (.rest 5 5))) [5, 6] [(0, 0, 0), (1, 127, 127), (0, 0, 0), (6, 127, 127), (0, 127, 127), (15, 127, 127), (63, 127, 127)] rfl rfl (by kernel_rfl) (by kernel_rfl) (Nat.le_of_ble_eq_true (by kernel_rfl)) (by kernel_rfl) (by kernel_rfl) (by kernel_rfl) ?_
    have hp := hp.drew
    refine k_loadA (n := 5) (xs := ints .u64 r30) 0 rfl (by kernel_rfl) (by kernel_rfl) s13_e49 (hp.get (j := 12) rfl) rfl rfl ((ints_length _ _).trans lr300) (fun m v hm => by rw [Nat.zero_add]; exact hm) ?_
    refine k_loadA (n := 5) (xs := ints .u64 r24) 0 rfl (by kernel_rfl) (by kernel_rfl) s11_e49 (hp.get (j := 10) rfl) rfl rfl ((ints_length _ _).trans lr240) (fun m v hm => by rw [Nat.zero_add]; exact hm) ?_
    refine k_rest [1, 3, 4, 5, 6] (fun L e w => ∃ c_g2_0 c_g3_1 : List Int, (((((L 1 = true → r32.length = 5) ∧ (L 3 = true → r33.length = 5)) ∧ (((e 2 = .pointer (some ⟨g2, 0, none⟩) ∧ e 3 = .pointer (some ⟨g3, 0, none⟩)) ∧ e 6 = .pointer (some ⟨g10, 0, none⟩)) ∧ (e 51 = .agg (ints .u64 r30).toArray ∧ e 53 = .agg (ints .u64 r24).toArray))) ∧ ((L 1 = true → e 52 = .agg (ints .u64 r32).toArray) ∧ (L 3 = true → e 54 = .agg (ints .u64 r33).toArray))) ∧ ((((L 4 = true → e 55 = .agg (ints .u64 r9).toArray) ∧ (L 5 = false → c_g2_0 = (List.replicate 5 (0 : Int)))) ∧ (L 5 = true → c_g2_0 = r33)) ∧ ((L 6 = false → c_g3_1 = (List.replicate 5 (0 : Int))) ∧ (L 6 = true → c_g3_1 = r9)))) ∧ Hp w0 [] w [⟨g1, 0, ints .u64 a0⟩, ⟨g2, 0, ints .u64 c_g2_0⟩, ⟨g3, 0, ints .u64 c_g3_1⟩, ⟨g5, 0, ints .u64 r4⟩, ⟨g8, 0, ints .u64 r7⟩, ⟨g10, 0, ints .u64 r9⟩, ⟨g13, 0, ints .u64 r12⟩, ⟨g16, 0, ints .u64 r15⟩, ⟨g19, 0, ints .u64 r18⟩, ⟨g22, 0, ints .u64 r21⟩, ⟨g25, 0, ints .u64 r24⟩, ⟨g28, 0, ints .u64 r27⟩, ⟨g31, 0, ints .u64 r30⟩] []) (by kernel_rfl) (by kernel_rfl) ?_ ?_ ?_
    · exact ⟨(List.replicate 5 (0 : Int)), (List.replicate 5 (0 : Int)), ⟨⟨⟨⟨(fun h => absurd h (by decide)), (fun h => absurd h (by decide))⟩, ⟨⟨⟨s2_e49, s3_e49⟩, s6_e49⟩, ⟨rfl, rfl⟩⟩⟩, ⟨(fun h => absurd h (by decide)), (fun h => absurd h (by decide))⟩⟩, ⟨⟨⟨(fun h => absurd h (by decide)), (fun _ => rfl)⟩, (fun h => absurd h (by decide))⟩, ⟨(fun _ => rfl), (fun h => absurd h (by decide))⟩⟩⟩, hp⟩
    · rintro L e w hall ⟨c_g2_0, c_g3_1, hF, hp⟩
      have qc_g2_0 := hF.2.1.2 (hall 5 rfl)
      rw [qc_g2_0] at hp
      have qc_g3_1 := hF.2.2.2 (hall 6 rfl)
      rw [qc_g3_1] at hp
      exact onlyN_i ⟨⟨⟨(hF.1.1.1.2 (hall 3 rfl)), hF.1.1.2.1.1.1⟩, hF.1.1.2.1.1.2⟩, hp⟩
    refine allU_cons ?_ ?_
    · rintro L e w hLi hb hcl ⟨c_g2_0, c_g3_1, hF, hp⟩
      refine k_call [.agg (ints .u64 r30).toArray, .int .i64 50] rfl (by kernel_rfl) (args2 hF.1.1.2.2.1 rfl) (field_Element_squared_ok k r30 50 lr300 _ (hp.toR (fun _ h => by cases h)) qr32) ?_
      rintro _ w' ⟨_, rfl, rfl, lr320, hpc⟩
      refine ⟨_, rfl, .inr (.of_below hpc.chg.to_below), ?_⟩; have hp := hp.below hpc.chg.to_below; clear hpc
      exact k_done ⟨c_g2_0, c_g3_1, ⟨⟨⟨⟨(fun _ => lr320), hF.1.1.1.2⟩, hF.1.1.2⟩, ⟨(fun _ => rfl), hF.1.2.2⟩⟩, hF.2⟩, hp⟩
    refine allU_cons ?_ ?_
    · rintro L e w hLi hb hcl ⟨c_g2_0, c_g3_1, hF, hp⟩
      have hL1 := hb 1 (by kernel_rfl)
      have lr320 := hF.1.1.1.1 hL1
      refine k_call [.agg (ints .u64 r32).toArray, .agg (ints .u64 r24).toArray] rfl (by kernel_rfl) (args2 (hF.1.2.1 hL1) hF.1.1.2.2.2) (field_Element_Times_ok r32 r24 lr320 lr240 _ (hp.toR (fun _ h => by cases h)) qr33) ?_
      rintro _ w' ⟨_, rfl, rfl, lr330, hpc⟩
      refine ⟨_, rfl, .inr (.of_below hpc.chg.to_below), ?_⟩; have hp := hp.below hpc.chg.to_below; clear hpc
      exact k_done ⟨c_g2_0, c_g3_1, ⟨⟨⟨⟨hF.1.1.1.1, (fun _ => lr330)⟩, hF.1.1.2⟩, ⟨hF.1.2.1, (fun _ => rfl)⟩⟩, hF.2⟩, hp⟩
    refine allU_cons ?_ ?_
    · rintro L e w hLi hb hcl ⟨c_g2_0, c_g3_1, hF, hp⟩
      refine tk_ef ?_
      refine k_loadA (n := 5) (xs := ints .u64 r9) 0 rfl (by kernel_rfl) (by kernel_rfl) hF.1.1.2.1.2 (hp.get (j := 5) rfl) rfl rfl ((ints_length _ _).trans lr90) (fun m v hm => by rw [Nat.zero_add]; exact hm) ?_
      exact k_done ⟨c_g2_0, c_g3_1, ⟨hF.1, ⟨⟨⟨(fun _ => rfl), hF.2.1.1.2⟩, hF.2.1.2⟩, hF.2.2⟩⟩, hp⟩
    refine allU_cons ?_ ?_
    · rintro L e w hLi hb hcl ⟨c_g2_0, c_g3_1, hF, hp⟩
      have hL3 := hb 3 (by kernel_rfl)
      have lr330 := hF.1.1.1.2 hL3
      have qc_g2_0 := hF.2.1.1.2 hLi
      rw [qc_g2_0] at hp
      refine k_storeA (v := .agg (ints .u64 r33).toArray) 1 0 (r := ⟨g2, 0, ints .u64 (List.replicate 5 (0 : Int))⟩) (ints .u64 r33) (ints .u64 r33) rfl (n := 5) (by kernel_rfl) hF.1.1.2.1.1.1 (hF.1.2.2 hL3) rfl ((ints_length _ _).trans lr330) (ints_one _ _) hp rfl rfl rfl (Nat.le_of_eq ((Nat.zero_add _).trans ((ints_length _ _).trans List.length_replicate).symm)) (setMany_all _ _ (((ints_length _ _).trans lr330).trans ((ints_length _ _).trans List.length_replicate).symm)) (by decide) ?_; intro w hp
      exact k_done ⟨r33, c_g3_1, ⟨hF.1, ⟨⟨⟨hF.2.1.1.1, (fun h => nomatch (show true = false from h))⟩, (fun _ => rfl)⟩, hF.2.2⟩⟩, hp⟩
    refine allU_cons ?_ allU_nil
    · rintro L e w hLi hb hcl ⟨c_g2_0, c_g3_1, hF, hp⟩
      have hL4 := hb 4 (by kernel_rfl)
      have qc_g3_1 := hF.2.2.1 hLi
      rw [qc_g3_1] at hp
      refine k_storeA (v := .agg (ints .u64 r9).toArray) 2 0 (r := ⟨g3, 0, ints .u64 (List.replicate 5 (0 : Int))⟩) (ints .u64 r9) (ints .u64 r9) rfl (n := 5) (by kernel_rfl) hF.1.1.2.1.1.2 (hF.2.1.1.1 hL4) rfl ((ints_length _ _).trans lr90) (ints_one _ _) hp rfl rfl rfl (Nat.le_of_eq ((Nat.zero_add _).trans ((ints_length _ _).trans List.length_replicate).symm)) (setMany_all _ _ (((ints_length _ _).trans lr90).trans ((ints_length _ _).trans List.length_replicate).symm)) (by decide) ?_; intro w hp
      exact k_done ⟨c_g2_0, r9, ⟨hF.1, ⟨hF.2.1, ⟨(fun h => nomatch (show true = false from h)), (fun _ => rfl)⟩⟩⟩, hp⟩
  rintro e50 w ⟨hF, hp⟩
  have lr330 := hF.1.1
  have s2_e50 := hF.1.2
  have s3_e50 := hF.2
  clear hF
  refine wret rfl ?_
  have hr : r = (r33, r9) := (Option.some.inj h).symm
  show RetP _ _ _ _ _
  rw [hr]
  exact ret_i [.agg (ints .u64 r33).toArray, .agg (ints .u64 r9).toArray] (res_cell s2_e50 (loadVar_agg (by kernel_rfl) (by kernel_rfl) ((ints_length _ _).trans lr330) (hp.get (j := 1) rfl) rfl rfl rfl) (res_cell s3_e50 (loadVar_agg (by kernel_rfl) (by kernel_rfl) ((ints_length _ _).trans lr90) (hp.get (j := 2) rfl) rfl rfl rfl) res_nil)) ⟨rfl, lr330, lr90, hp.none⟩
/-! 55 (postilion/field.Element).Inverse -/
noncomputable def field_Element_Inverse.o1 : Array Oper := opsC (at_ (fbody Try.f55) [0])
noncomputable def field_Element_Inverse.o2 : Array Oper := opsC (at_ (fbody Try.f55) [1, 0])
noncomputable def field_Element_Inverse.o3 : Array Oper := opsC (at_ (fbody Try.f55) [1, 1, 0])
theorem field_Element_Inverse_ok (k : Nat) (a0 : List Int) (la0 : a0.length = 5) (w0 : World) (hp : Hp w0 [] w0 [] []) {r : List Int} (h : field_Element_Inverse.f k a0 = some r) :
    Calls Try.prog 55 [.agg (ints .u64 a0).toArray].toArray w0 fun x w' => ∃ v, x = .returned v ∧ v = .agg (ints .u64 r).toArray ∧ r.length = 5 ∧ Hp w0 [] w' [] [] := by
  refine calls_inP Try.func55 rfl (Nat.le_of_ble_eq_true (by kernel_rfl)) (by kernel_rfl) ?_
  intro e0 qe0
  have s0_e0 : e0 0 = .agg (ints .u64 a0).toArray := congrFun qe0 0
  clear qe0
  unfold field_Element_Inverse.f at h
  refine wseqP (p0 := [0]) (p1 := [1]) rfl rfl rfl ?_
  refine wregionT field_Element_Inverse.o1 (.ef 0 (.ef 1 (.done))) [] rfl rfl (by kernel_rfl) (by kernel_rfl) ?_
  refine k_box (v := .agg (ints .u64 a0).toArray) (ints .u64 a0) rfl s0_e0 rfl hp ?_
  intro g1 w hbg1 hp
  refine k_alloc (ints .u64 (List.replicate 5 (0 : Int))) rfl (by kernel_rfl) hp ?_
  intro g2 w hbg2 hp
  refine k_end ?_; intro e51 qe51
  have s1_e51 : e51 1 = .pointer (some ⟨g1, 0, none⟩) := congrFun qe51 1
  have s2_e51 : e51 2 = .pointer (some ⟨g2, 0, none⟩) := congrFun qe51 2
  clear qe51
  refine wseqP (p0 := [1, 0]) (p1 := [1, 1]) rfl rfl rfl ?_
  refine wregionT field_Element_Inverse.o2 (.tk 0 (.ef 1 (.tp 2 (.tp 3 (.tp 4 (.ef 5 (.ef 6 (.ef 7 (.ef 8 (.done)))))))))) [7, 8] rfl rfl (by kernel_rfl) (by kernel_rfl) ?_
  refine k_loadA (n := 5) (xs := ints .u64 a0) 0 rfl (by kernel_rfl) (by kernel_rfl) s1_e51 (hp.get (j := 0) rfl) rfl rfl ((ints_length _ _).trans la0) (fun m v hm => by rw [Nat.zero_add]; exact hm) ?_
  obtain ⟨r3, qr3, h⟩ := bd_e h
  refine k_call [.agg (ints .u64 a0).toArray] rfl (by kernel_rfl) (args1 rfl) (field_Element_chain_ok k a0 la0 _ (hp.toR (fun _ h => by cases h)) qr3) ?_
  rintro _ w' ⟨_, rfl, rfl, lr30, lr31, hpc⟩
  refine ⟨_, rfl, .inr (.of_below hpc.chg.to_below), ?_⟩; have hp := hp.below hpc.chg.to_below; clear hpc
  refine k_move (v := .tuple #[.agg (ints .u64 r3.1).toArray, .agg (ints .u64 r3.2).toArray]) rfl rfl ?_
  refine k_extract (v := .agg (ints .u64 r3.1).toArray) rfl rfl rfl ?_
  refine k_extract (v := .agg (ints .u64 r3.2).toArray) rfl rfl rfl ?_
  refine k_alloc (ints .u64 (List.replicate 5 (0 : Int))) rfl (by kernel_rfl) hp ?_
  intro g4 w hbg4 hp
  refine k_alloc (ints .u64 (List.replicate 5 (0 : Int))) rfl (by kernel_rfl) hp ?_
  intro g5 w hbg5 hp
  refine k_storeA (v := .agg (ints .u64 r3.1).toArray) 2 0 (r := ⟨g4, 0, ints .u64 (List.replicate 5 (0 : Int))⟩) (ints .u64 r3.1) (ints .u64 r3.1) rfl (n := 5) (by kernel_rfl) rfl rfl rfl ((ints_length _ _).trans lr30) (ints_one _ _) hp rfl rfl rfl (Nat.le_of_eq ((Nat.zero_add _).trans ((ints_length _ _).trans List.length_replicate).symm)) (setMany_all _ _ (((ints_length _ _).trans lr30).trans ((ints_length _ _).trans List.length_replicate).symm)) (by decide) ?_; intro w hp
  refine k_storeA (v := .agg (ints .u64 r3.2).toArray) 3 0 (r := ⟨g5, 0, ints .u64 (List.replicate 5 (0 : Int))⟩) (ints .u64 r3.2) (ints .u64 r3.2) rfl (n := 5) (by kernel_rfl) rfl rfl rfl ((ints_length _ _).trans lr31) (ints_one _ _) hp rfl rfl rfl (Nat.le_of_eq ((Nat.zero_add _).trans ((ints_length _ _).trans List.length_replicate).symm)) (setMany_all _ _ (((ints_length _ _).trans lr31).trans ((ints_length _ _).trans List.length_replicate).symm)) (by decide) ?_; intro w hp
  refine k_end ?_; intro e52 qe52
  have s2_e52 : e52 2 = .pointer (some ⟨g2, 0, none⟩) := (congrFun qe52 2).trans s2_e51
  have s3_e52 : e52 3 = .pointer (some ⟨g4, 0, none⟩) := congrFun qe52 3
  have s4_e52 : e52 4 = .pointer (some ⟨g5, 0, none⟩) := congrFun qe52 4
  clear qe52
  refine wseqP (p0 := [1, 1, 0]) (p1 := [1, 1, 1]) rfl rfl rfl ?_
  refine wregionM field_Element_Inverse.o3 (.tk 0 (.tk 2 (.ef 1 (.ef 3 (.ef 4 (.done)))))) [4] [(0, 0, 0), (1, 31, 31), (0, 0, 0), (6, 31, 31), (15, 31, 31)] rfl rfl (by kernel_rfl) (by kernel_rfl) (Nat.le_of_ble_eq_true (by kernel_rfl)) (by kernel_rfl) (by kernel_rfl) (by kernel_rfl) ?_
  have hp := hp.drew
  refine k_loadA (n := 5) (xs := ints .u64 r3.1) 0 rfl (by kernel_rfl) (by kernel_rfl) s3_e52 (hp.get (j := 2) rfl) rfl rfl ((ints_length _ _).trans lr30) (fun m v hm => by rw [Nat.zero_add]; exact hm) ?_
  refine k_loadA (n := 5) (xs := ints .u64 r3.2) 0 rfl (by kernel_rfl) (by kernel_rfl) s4_e52 (hp.get (j := 3) rfl) rfl rfl ((ints_length _ _).trans lr31) (fun m v hm => by rw [Nat.zero_add]; exact hm) ?_
  obtain ⟨r6, qr6, h⟩ := bd_e h
  refine k_call [.agg (ints .u64 r3.1).toArray, .int .i64 5] rfl (by kernel_rfl) (args2 rfl rfl) (field_Element_squared_ok k r3.1 5 lr30 _ (hp.toR (fun _ h => by cases h)) qr6) ?_
  rintro _ w' ⟨_, rfl, rfl, lr60, hpc⟩
  refine ⟨_, rfl, .inr (.of_below hpc.chg.to_below), ?_⟩; have hp := hp.below hpc.chg.to_below; clear hpc
  obtain ⟨r7, qr7, h⟩ := bd_e h
  refine k_call [.agg (ints .u64 r6).toArray, .agg (ints .u64 r3.2).toArray] rfl (by kernel_rfl) (args2 rfl rfl) (field_Element_Times_ok r6 r3.2 lr60 lr31 _ (hp.toR (fun _ h => by cases h)) qr7) ?_
  rintro _ w' ⟨_, rfl, rfl, lr70, hpc⟩
  refine ⟨_, rfl, .inr (.of_below hpc.chg.to_below), ?_⟩; have hp := hp.below hpc.chg.to_below; clear hpc
  refine k_storeA (v := .agg (ints .u64 r7).toArray) 1 0 (r := ⟨g2, 0, ints .u64 (List.replicate 5 (0 : Int))⟩) (ints .u64 r7) (ints .u64 r7) rfl (n := 5) (by kernel_rfl) s2_e52 rfl rfl ((ints_length _ _).trans lr70) (ints_one _ _) hp rfl rfl rfl (Nat.le_of_eq ((Nat.zero_add _).trans ((ints_length _ _).trans List.length_replicate).symm)) (setMany_all _ _ (((ints_length _ _).trans lr70).trans ((ints_length _ _).trans List.length_replicate).symm)) (by decide) ?_; intro w hp
  refine k_end ?_; intro e53 qe53
  have s2_e53 : e53 2 = .pointer (some ⟨g2, 0, none⟩) := (congrFun qe53 2).trans s2_e52
  clear qe53
  refine wret rfl ?_
  have hr : r = r7 := (Option.some.inj h).symm
  show RetP _ _ _ _ _
  rw [hr]
  exact ret_i [.agg (ints .u64 r7).toArray] (res_cell s2_e53 (loadVar_agg (by kernel_rfl) (by kernel_rfl) ((ints_length _ _).trans lr70) (hp.get (j := 1) rfl) rfl rfl rfl) res_nil) ⟨rfl, lr70, hp.none⟩
/-! 56 (postilion/field.Element).Bytes -/
noncomputable def field_Element_Bytes.o1 : Array Oper := opsC (at_ (fbody Try.f56) [0])
noncomputable def field_Element_Bytes.o2 : Array Oper := opsC (at_ (fbody Try.f56) [1, 0])
noncomputable def field_Element_Bytes.o3 : Array Oper := opsC (at_ (fbody Try.f56) [1, 1, 0])
noncomputable def field_Element_Bytes.o4 : Array Oper := opsC (at_ (fbody Try.f56) [1, 1, 1, 0, 0])
noncomputable def field_Element_Bytes.o5 : Array Oper := opsC (at_ (fbody Try.f56) [1, 1, 1, 0, 1, 0, 0, 0])
noncomputable def field_Element_Bytes.o6 : Array Oper := opsC (at_ (fbody Try.f56) [1, 1, 1, 0, 1, 0, 0, 1, 1, 0, 0, 0])
noncomputable def field_Element_Bytes.o7 : Array Oper := opsC (at_ (fbody Try.f56) [1, 1, 1, 0, 1, 0, 0, 1, 1, 0, 0, 1])
noncomputable def field_Element_Bytes.o8 : Array Oper := opsC (at_ (fbody Try.f56) [1, 1, 1, 0, 1, 0, 0, 1, 1, 1])
noncomputable def field_Element_Bytes.o9 : Array Oper := opsC (at_ (fbody Try.f56) [1, 1, 1, 1, 0])
noncomputable def field_Element_Bytes.o10 : Array Oper := opsC (at_ (fbody Try.f56) [1, 1, 1, 1, 1, 0, 0])
noncomputable def field_Element_Bytes.o11 : Array Oper := opsC (at_ (fbody Try.f56) [1, 1, 1, 1, 1, 0, 1, 0, 0, 0])
noncomputable def field_Element_Bytes.o12 : Array Oper := opsC (at_ (fbody Try.f56) [1, 1, 1, 1, 1, 0, 1, 0, 0, 1, 1, 0, 0, 0])
noncomputable def field_Element_Bytes.o13 : Array Oper := opsC (at_ (fbody Try.f56) [1, 1, 1, 1, 1, 0, 1, 0, 0, 1, 1, 0, 0, 1, 0])
noncomputable def field_Element_Bytes.o14 : Array Oper := opsC (at_ (fbody Try.f56) [1, 1, 1, 1, 1, 0, 1, 0, 0, 1, 1, 0, 0, 1, 1])
noncomputable def field_Element_Bytes.o15 : Array Oper := opsC (at_ (fbody Try.f56) [1, 1, 1, 1, 1, 0, 1, 0, 0, 1, 1, 1])
noncomputable def field_Element_Bytes.o16 : Array Oper := opsC (at_ (fbody Try.f56) [1, 1, 1, 1, 1, 1, 0])
noncomputable def field_Element_Bytes.o17 : Array Oper := opsC (at_ (fbody Try.f56) [1, 1, 1, 1, 1, 1, 1, 0])
noncomputable def field_Element_Bytes.o18 : Array Oper := opsC (at_ (fbody Try.f56) [1, 1, 1, 1, 1, 1, 1, 1, 0, 0])
noncomputable def field_Element_Bytes.o19 : Array Oper := opsC (at_ (fbody Try.f56) [1, 1, 1, 1, 1, 1, 1, 1, 0, 1, 0, 0, 0])
noncomputable def field_Element_Bytes.o20 : Array Oper := opsC (at_ (fbody Try.f56) [1, 1, 1, 1, 1, 1, 1, 1, 0, 1, 0, 0, 1, 1, 0, 0, 0])
noncomputable def field_Element_Bytes.o21 : Array Oper := opsC (at_ (fbody Try.f56) [1, 1, 1, 1, 1, 1, 1, 1, 0, 1, 0, 0, 1, 1, 0, 0, 1, 0])
noncomputable def field_Element_Bytes.o22 : Array Oper := opsC (at_ (fbody Try.f56) [1, 1, 1, 1, 1, 1, 1, 1, 0, 1, 0, 0, 1, 1, 0, 0, 1, 1, 0, 0, 0])
noncomputable def field_Element_Bytes.o23 : Array Oper := opsC (at_ (fbody Try.f56) [1, 1, 1, 1, 1, 1, 1, 1, 0, 1, 0, 0, 1, 1, 0, 0, 1, 1, 0, 0, 1, 1, 0, 0, 0])
noncomputable def field_Element_Bytes.o24 : Array Oper := opsC (at_ (fbody Try.f56) [1, 1, 1, 1, 1, 1, 1, 1, 0, 1, 0, 0, 1, 1, 0, 0, 1, 1, 0, 0, 1, 1, 0, 0, 1])
noncomputable def field_Element_Bytes.o25 : Array Oper := opsC (at_ (fbody Try.f56) [1, 1, 1, 1, 1, 1, 1, 1, 0, 1, 0, 0, 1, 1, 0, 0, 1, 1, 0, 0, 1, 1, 1])
noncomputable def field_Element_Bytes.o26 : Array Oper := opsC (at_ (fbody Try.f56) [1, 1, 1, 1, 1, 1, 1, 1, 0, 1, 0, 0, 1, 1, 1])
noncomputable def field_Element_Bytes.o27 : Array Oper := opsC (at_ (fbody Try.f56) [1, 1, 1, 1, 1, 1, 1, 1, 1, 0])
theorem field_Element_Bytes.p1_ok {w0 : World} {Ws : List Wr} {Q : Exit → Env → World → Prop} (g1 g2 : Nat) (x6 : Int) (r4 : List Int) (lr40 : r4.length = 5) {r : Int} (hQ0 : ∀ (e' : Env) (w' : World) (z0 : Int), e' 1 = .pointer (some ⟨g1, 0, none⟩) → e' 2 = .pointer (some ⟨g2, 0, none⟩) → e' 3 = .int .u64 z0 → Hp w0 Ws w' [⟨g1, 0, ints .u64 r4⟩, ⟨g2, 0, ints .u8 (List.replicate 32 (0 : Int))⟩] [] → r = (z0) → Q (.exit 0) e' w') : ∀ (k : Nat), ∀ (y7 : Int) (y8 : Int) (e : Env) (w : World)  (s1_e : e 1 = .pointer (some ⟨g1, 0, none⟩)) (s2_e : e 2 = .pointer (some ⟨g2, 0, none⟩)) (s3_e : e 3 = .int .u64 y7) (s18_e : e 18 = .slice (some ⟨g1, 0 + 1 * 1, none⟩) (5 - 1) (5 - 1)) (s19_e : e 19 = .int .i64 x6) (s20_e : e 20 = .int .i64 y8) (hp : Hp w0 Ws w [⟨g1, 0, ints .u64 r4⟩, ⟨g2, 0, ints .u8 (List.replicate 32 (0 : Int))⟩] []) (h : field_Element_Bytes.p1 k x6 r4 y7 y8 = some r), Lp Try.prog Try.f56.ntmps (at_ (fbody Try.f56) [1, 1, 1, 0, 1, 0, 0]) Q k e w := by
  intro k
  induction k with
  | zero => intro y7 y8 e w  s1_e s2_e s3_e s18_e s19_e s20_e hp h; cases h
  | succ k ih =>
    intro y7 y8 e w  s1_e s2_e s3_e s18_e s19_e s20_e hp h
    unfold field_Element_Bytes.p1 at h
    show Wp _ _ _ _ _ _
    refine wseqP (p0 := [1, 1, 1, 0, 1, 0, 0, 0]) (p1 := [1, 1, 1, 0, 1, 0, 0, 1]) rfl rfl rfl ?_
    refine wregionT field_Element_Bytes.o5 (.tp 0 (.done)) [] rfl rfl (by kernel_rfl) (by kernel_rfl) ?_
    refine k_bin (X := .int .i64 y8) (Y := .int .i64 x6) rfl s20_e s19_e rfl ?_
    refine k_end ?_; intro e58 qe58
    have s1_e58 : e58 1 = .pointer (some ⟨g1, 0, none⟩) := (congrFun qe58 1).trans s1_e
    have s2_e58 : e58 2 = .pointer (some ⟨g2, 0, none⟩) := (congrFun qe58 2).trans s2_e
    have s3_e58 : e58 3 = .int .u64 y7 := (congrFun qe58 3).trans s3_e
    have s18_e58 : e58 18 = .slice (some ⟨g1, 0 + 1 * 1, none⟩) (5 - 1) (5 - 1) := (congrFun qe58 18).trans s18_e
    have s19_e58 : e58 19 = .int .i64 x6 := (congrFun qe58 19).trans s19_e
    have s20_e58 : e58 20 = .int .i64 y8 := (congrFun qe58 20).trans s20_e
    have s21_e58 : e58 21 = .bool (decide (y8 < x6)) := congrFun qe58 21
    clear qe58
    refine wseqP (p0 := [1, 1, 1, 0, 1, 0, 0, 1, 0]) (p1 := [1, 1, 1, 0, 1, 0, 0, 1, 1]) rfl rfl rfl ?_
    refine wcondP (p0 := [1, 1, 1, 0, 1, 0, 0, 1, 0, 0]) (p1 := [1, 1, 1, 0, 1, 0, 0, 1, 0, 1]) (t := (decide (y8 < x6))) rfl rfl rfl (by decide) s21_e58 (fun hb => ?_) (fun hb => ?_)
    · replace h := br_t hb h
      refine wskip rfl ?_
      refine wseqP (p0 := [1, 1, 1, 0, 1, 0, 0, 1, 1, 0]) (p1 := [1, 1, 1, 0, 1, 0, 0, 1, 1, 1]) rfl rfl rfl ?_
      refine wblockP (p0 := [1, 1, 1, 0, 1, 0, 0, 1, 1, 0, 0]) 1 rfl rfl ?_
      refine wseqP (p0 := [1, 1, 1, 0, 1, 0, 0, 1, 1, 0, 0, 0]) (p1 := [1, 1, 1, 0, 1, 0, 0, 1, 1, 0, 0, 1]) rfl rfl rfl ?_
      refine wregionT field_Element_Bytes.o6 (.tp 0 (.tk 1 (.tp 2 (.done)))) [] rfl rfl (by kernel_rfl) (by kernel_rfl) ?_
      obtain ⟨c9, h⟩ := chk_e h
      refine k_indexS (s := 1) (j := y8) rfl Try.underlying94 (by kernel_rfl) s18_e58 s20_e58 c9 ?_
      refine k_load (j := (1 + (y8 : Int).toNat * 1)) (v := .int .u64 (r4.getD (1 + (y8 : Int).toNat * 1) 0)) rfl (by kernel_rfl) rfl (hp.get (j := 0) rfl) rfl (show 0 + 1 * 1 + (y8 : Int).toNat * 1 = 0 + (1 + (y8 : Int).toNat * 1) by omega) (ints_get (by have := lr40; omega)) ?_
      refine k_assign (v := .int .u64 (r4.getD (1 + (y8 : Int).toNat * 1) 0)) rfl rfl ?_
      refine k_end ?_; intro e59 qe59
      have s1_e59 : e59 1 = .pointer (some ⟨g1, 0, none⟩) := (congrFun qe59 1).trans s1_e58
      have s2_e59 : e59 2 = .pointer (some ⟨g2, 0, none⟩) := (congrFun qe59 2).trans s2_e58
      have s3_e59 : e59 3 = .int .u64 y7 := (congrFun qe59 3).trans s3_e58
      obtain ⟨x10, qx10, h⟩ := lt_e h
      have s5_e59 : e59 5 = .int .u64 x10 := (congrFun qe59 5).trans (congrArg (Value.int .u64) qx10.symm)
      have s18_e59 : e59 18 = .slice (some ⟨g1, 0 + 1 * 1, none⟩) (5 - 1) (5 - 1) := (congrFun qe59 18).trans s18_e58
      have s19_e59 : e59 19 = .int .i64 x6 := (congrFun qe59 19).trans s19_e58
      have s20_e59 : e59 20 = .int .i64 y8 := (congrFun qe59 20).trans s20_e58
      clear qe59
      refine wregionT field_Element_Bytes.o7 (.tp 0 (.tp 1 (.tp 2 (.tp 3 (.tp 4 (.done)))))) [] rfl rfl (by kernel_rfl) (by kernel_rfl) ?_
      refine k_move (v := .int .u64 x10) rfl s5_e59 ?_
      refine k_move (v := .int .u64 y7) rfl s3_e59 ?_
      refine k_bin (X := .int .u64 x10) (Y := .int .u64 y7) rfl rfl rfl rfl ?_
      refine k_shr (a := (IntKind.u64.wrap (x10 + y7))) (b := 51) rfl rfl rfl (by decide) ?_
      refine k_assign (v := .int .u64 (Int.fdiv (IntKind.u64.wrap (x10 + y7)) (2 ^ 51))) rfl rfl ?_
      refine k_end ?_; intro e60 qe60
      have s1_e60 : e60 1 = .pointer (some ⟨g1, 0, none⟩) := (congrFun qe60 1).trans s1_e59
      have s2_e60 : e60 2 = .pointer (some ⟨g2, 0, none⟩) := (congrFun qe60 2).trans s2_e59
      obtain ⟨x11, qx11, h⟩ := lt_e h
      have s3_e60 : e60 3 = .int .u64 x11 := (congrFun qe60 3).trans (congrArg (Value.int .u64) qx11.symm)
      have s18_e60 : e60 18 = .slice (some ⟨g1, 0 + 1 * 1, none⟩) (5 - 1) (5 - 1) := (congrFun qe60 18).trans s18_e59
      have s19_e60 : e60 19 = .int .i64 x6 := (congrFun qe60 19).trans s19_e59
      have s20_e60 : e60 20 = .int .i64 y8 := (congrFun qe60 20).trans s20_e59
      clear qe60
      refine wregionT field_Element_Bytes.o8 (.tp 0 (.tp 1 (.done))) [] rfl rfl (by kernel_rfl) (by kernel_rfl) ?_
      refine k_bin (X := .int .i64 y8) (Y := .int .i64 1) rfl s20_e60 rfl rfl ?_
      refine k_move (v := .int .i64 (IntKind.i64.wrap (y8 + 1))) rfl rfl ?_
      refine k_end ?_; intro e61 qe61
      have s1_e61 : e61 1 = .pointer (some ⟨g1, 0, none⟩) := (congrFun qe61 1).trans s1_e60
      have s2_e61 : e61 2 = .pointer (some ⟨g2, 0, none⟩) := (congrFun qe61 2).trans s2_e60
      have s3_e61 : e61 3 = .int .u64 x11 := (congrFun qe61 3).trans s3_e60
      have s18_e61 : e61 18 = .slice (some ⟨g1, 0 + 1 * 1, none⟩) (5 - 1) (5 - 1) := (congrFun qe61 18).trans s18_e60
      have s19_e61 : e61 19 = .int .i64 x6 := (congrFun qe61 19).trans s19_e60
      obtain ⟨x12, qx12, h⟩ := lt_e h
      have s20_e61 : e61 20 = .int .i64 x12 := (congrFun qe61 20).trans (congrArg (Value.int .i64) qx12.symm)
      clear qe61
      exact ih x11 x12 _ _  s1_e61 s2_e61 s3_e61 s18_e61 s19_e61 s20_e61 (hp.drop (L' := [⟨g1, 0, ints .u64 r4⟩, ⟨g2, 0, ints .u8 (List.replicate 32 (0 : Int))⟩]) (List.Sublist.refl _)) h
    · replace h := br_f hb h
      refine wexit rfl ?_
      exact hQ0 _ _ y7  s1_e58 s2_e58 s3_e58 (hp.drop (L' := [⟨g1, 0, ints .u64 r4⟩, ⟨g2, 0, ints .u8 (List.replicate 32 (0 : Int))⟩]) (List.Sublist.refl _)) (Option.some.inj h).symm
theorem field_Element_Bytes.p2_ok {w0 : World} {Ws : List Wr} {Q : Exit → Env → World → Prop} (g1 g2 : Nat)   {r : List Int} (hQ0 : ∀ (e' : Env) (w' : World) (z0 : List Int), z0.length = 5 → e' 1 = .pointer (some ⟨g1, 0, none⟩) → e' 2 = .pointer (some ⟨g2, 0, none⟩) → Hp w0 Ws w' [⟨g1, 0, ints .u64 z0⟩, ⟨g2, 0, ints .u8 (List.replicate 32 (0 : Int))⟩] [] → r = (z0) → Q (.exit 2) e' w') : ∀ (k : Nat), ∀ (y16 : List Int) (y17 : Int) (e : Env) (w : World) (ly16 : y16.length = 5) (s1_e : e 1 = .pointer (some ⟨g1, 0, none⟩)) (s2_e : e 2 = .pointer (some ⟨g2, 0, none⟩)) (s35_e : e 35 = .int .i64 y17) (hp : Hp w0 Ws w [⟨g1, 0, ints .u64 y16⟩, ⟨g2, 0, ints .u8 (List.replicate 32 (0 : Int))⟩] []) (h : field_Element_Bytes.p2 k y16 y17 = some r), Lp Try.prog Try.f56.ntmps (at_ (fbody Try.f56) [1, 1, 1, 1, 1, 0, 1, 0, 0]) Q k e w := by
  intro k
  induction k with
  | zero => intro y16 y17 e w ly16 s1_e s2_e s35_e hp h; cases h
  | succ k ih =>
    intro y16 y17 e w ly16 s1_e s2_e s35_e hp h
    unfold field_Element_Bytes.p2 at h
    show Wp _ _ _ _ _ _
    refine wseqP (p0 := [1, 1, 1, 1, 1, 0, 1, 0, 0, 0]) (p1 := [1, 1, 1, 1, 1, 0, 1, 0, 0, 1]) rfl rfl rfl ?_
    refine wregionT field_Element_Bytes.o11 (.tp 0 (.done)) [] rfl rfl (by kernel_rfl) (by kernel_rfl) ?_
    refine k_bin (X := .int .i64 y17) (Y := .int .i64 4) rfl s35_e rfl rfl ?_
    refine k_end ?_; intro e65 qe65
    have s1_e65 : e65 1 = .pointer (some ⟨g1, 0, none⟩) := (congrFun qe65 1).trans s1_e
    have s2_e65 : e65 2 = .pointer (some ⟨g2, 0, none⟩) := (congrFun qe65 2).trans s2_e
    have s35_e65 : e65 35 = .int .i64 y17 := (congrFun qe65 35).trans s35_e
    have s36_e65 : e65 36 = .bool (decide (y17 < 4)) := congrFun qe65 36
    clear qe65
    refine wseqP (p0 := [1, 1, 1, 1, 1, 0, 1, 0, 0, 1, 0]) (p1 := [1, 1, 1, 1, 1, 0, 1, 0, 0, 1, 1]) rfl rfl rfl ?_
    refine wcondP (p0 := [1, 1, 1, 1, 1, 0, 1, 0, 0, 1, 0, 0]) (p1 := [1, 1, 1, 1, 1, 0, 1, 0, 0, 1, 0, 1]) (t := (decide (y17 < 4))) rfl rfl rfl (by decide) s36_e65 (fun hb => ?_) (fun hb => ?_)
    · replace h := br_t hb h
      refine wskip rfl ?_
      refine wseqP (p0 := [1, 1, 1, 1, 1, 0, 1, 0, 0, 1, 1, 0]) (p1 := [1, 1, 1, 1, 1, 0, 1, 0, 0, 1, 1, 1]) rfl rfl rfl ?_
      refine wblockP (p0 := [1, 1, 1, 1, 1, 0, 1, 0, 0, 1, 1, 0, 0]) 3 rfl rfl ?_
      refine wseqP (p0 := [1, 1, 1, 1, 1, 0, 1, 0, 0, 1, 1, 0, 0, 0]) (p1 := [1, 1, 1, 1, 1, 0, 1, 0, 0, 1, 1, 0, 0, 1]) rfl rfl rfl ?_
      refine wregionT field_Element_Bytes.o12 (.tp 0 (.tp 1 (.done))) [] rfl rfl (by kernel_rfl) (by kernel_rfl) ?_
      refine k_move (v := .int .i64 y17) rfl s35_e65 ?_
      refine k_assign (v := .int .i64 y17) rfl rfl ?_
      refine k_end ?_; intro e66 qe66
      have s1_e66 : e66 1 = .pointer (some ⟨g1, 0, none⟩) := (congrFun qe66 1).trans s1_e65
      have s2_e66 : e66 2 = .pointer (some ⟨g2, 0, none⟩) := (congrFun qe66 2).trans s2_e65
      have s6_e66 : e66 6 = .int .i64 y17 := congrFun qe66 6
      have s35_e66 : e66 35 = .int .i64 y17 := (congrFun qe66 35).trans s35_e65
      clear qe66
      refine wseqP (p0 := [1, 1, 1, 1, 1, 0, 1, 0, 0, 1, 1, 0, 0, 1, 0]) (p1 := [1, 1, 1, 1, 1, 0, 1, 0, 0, 1, 1, 0, 0, 1, 1]) rfl rfl rfl ?_
      refine wregionM field_Element_Bytes.o13 (.tp 0 (.tp 1 (.tp 2 (.tk 3 (.tp 4 (.tp 5 (.tk 6 (.tp 7 (.tp 8 (.tp 9 (.ef 10 (.done)))))))))))) [10] [(0, 0, 2047), (1, 1, 2047), (2, 2, 2047), (4, 4, 0), (0, 0, 2047), (16, 16, 2047), (32, 32, 0), (64, 64, 2047), (136, 136, 2047), (511, 2, 2047), (1023, 2047, 2047)] rfl rfl (by kernel_rfl) (by kernel_rfl) (Nat.le_of_ble_eq_true (by kernel_rfl)) (by kernel_rfl) (by kernel_rfl) (by kernel_rfl) ?_
      have hp := hp.drew
      refine k_move (v := .int .i64 y17) rfl s6_e66 ?_
      refine k_bin (X := .int .i64 y17) (Y := .int .i64 1) rfl rfl rfl rfl ?_
      obtain ⟨c18, h⟩ := chk_e h
      refine k_indexA (n := 5) (s := 1) (j := (IntKind.i64.wrap (y17 + 1))) rfl Try.underlying40 (by kernel_rfl) s1_e66 rfl c18 ?_
      refine k_load (j := ((IntKind.i64.wrap (y17 + 1)) : Int).toNat) (v := .int .u64 (y16.getD ((IntKind.i64.wrap (y17 + 1)) : Int).toNat 0)) rfl (by kernel_rfl) rfl (hp.get (j := 0) rfl) rfl (show 0 + ((IntKind.i64.wrap (y17 + 1)) : Int).toNat * 1 = 0 + ((IntKind.i64.wrap (y17 + 1)) : Int).toNat by omega) (ints_get (idx_lt c18 ly16)) ?_
      refine k_move (v := .int .i64 y17) rfl s6_e66 ?_
      obtain ⟨c19, h⟩ := chk_e h
      refine k_indexA (n := 5) (s := 1) (j := y17) rfl Try.underlying40 (by kernel_rfl) s1_e66 rfl c19 ?_
      refine k_load (j := (y17 : Int).toNat) (v := .int .u64 (y16.getD (y17 : Int).toNat 0)) rfl (by kernel_rfl) rfl (hp.get (j := 0) rfl) rfl (show 0 + (y17 : Int).toNat * 1 = 0 + (y17 : Int).toNat by omega) (ints_get (idx_lt c19 ly16)) ?_
      refine k_shr (a := (y16.getD (y17 : Int).toNat 0)) (b := 51) rfl rfl rfl (by decide) ?_
      refine k_bin (X := .int .u64 (y16.getD ((IntKind.i64.wrap (y17 + 1)) : Int).toNat 0)) (Y := .int .u64 (Int.fdiv (y16.getD (y17 : Int).toNat 0) (2 ^ 51))) rfl rfl rfl rfl ?_
      refine k_indexA (n := 5) (s := 1) (j := (IntKind.i64.wrap (y17 + 1))) rfl Try.underlying40 (by kernel_rfl) s1_e66 rfl c18 ?_
      refine k_store (v := .int .u64 (IntKind.u64.wrap ((y16.getD ((IntKind.i64.wrap (y17 + 1)) : Int).toNat 0) + (Int.fdiv (y16.getD (y17 : Int).toNat 0) (2 ^ 51))))) 0 ((IntKind.i64.wrap (y17 + 1)) : Int).toNat (r := ⟨g1, 0, ints .u64 y16⟩) rfl (by kernel_rfl) rfl rfl rfl hp rfl rfl (show 0 + ((IntKind.i64.wrap (y17 + 1)) : Int).toNat * 1 = 0 + ((IntKind.i64.wrap (y17 + 1)) : Int).toNat by omega) (Nat.lt_of_lt_of_eq (idx_lt c18 ly16) (ints_length _ _).symm) (by decide) ?_; intro w hp; rw [ints_set] at hp
      refine k_end ?_; intro e67 qe67
      have s1_e67 : e67 1 = .pointer (some ⟨g1, 0, none⟩) := (congrFun qe67 1).trans s1_e66
      have s2_e67 : e67 2 = .pointer (some ⟨g2, 0, none⟩) := (congrFun qe67 2).trans s2_e66
      have s6_e67 : e67 6 = .int .i64 y17 := (congrFun qe67 6).trans s6_e66
      have s35_e67 : e67 35 = .int .i64 y17 := (congrFun qe67 35).trans s35_e66
      clear qe67
      obtain ⟨x20, qx20, h⟩ := lt_e h
      have lx20 : x20.length = 5 := (congrArg List.length qx20).trans (List.length_set.trans ly16)
      have hp : Hp w0 Ws w [⟨g1, 0, ints .u64 x20⟩, ⟨g2, 0, ints .u8 (List.replicate 32 (0 : Int))⟩] [] := by rw [qx20]; exact hp
      refine wregionT field_Element_Bytes.o14 (.tp 0 (.tp 1 (.tk 2 (.tp 3 (.tp 4 (.ef 5 (.done))))))) [5] rfl rfl (by kernel_rfl) (by kernel_rfl) ?_
      refine k_move (v := .int .i64 y17) rfl s6_e67 ?_
      refine k_indexA (n := 5) (s := 1) (j := y17) rfl Try.underlying40 (by kernel_rfl) s1_e67 rfl c19 ?_
      refine k_load (j := (y17 : Int).toNat) (v := .int .u64 (x20.getD (y17 : Int).toNat 0)) rfl (by kernel_rfl) rfl (hp.get (j := 0) rfl) rfl (show 0 + (y17 : Int).toNat * 1 = 0 + (y17 : Int).toNat by omega) (ints_get (idx_lt c19 lx20)) ?_
      refine k_bin (X := .int .u64 (x20.getD (y17 : Int).toNat 0)) (Y := .int .u64 2251799813685247) rfl rfl rfl rfl ?_
      refine k_indexA (n := 5) (s := 1) (j := y17) rfl Try.underlying40 (by kernel_rfl) s1_e67 rfl c19 ?_
      refine k_store (v := .int .u64 (bits .and .u64 (x20.getD (y17 : Int).toNat 0) 2251799813685247)) 0 (y17 : Int).toNat (r := ⟨g1, 0, ints .u64 x20⟩) rfl (by kernel_rfl) rfl rfl rfl hp rfl rfl (show 0 + (y17 : Int).toNat * 1 = 0 + (y17 : Int).toNat by omega) (Nat.lt_of_lt_of_eq (idx_lt c19 lx20) (ints_length _ _).symm) (by decide) ?_; intro w hp; rw [ints_set] at hp
      refine k_end ?_; intro e68 qe68
      have s1_e68 : e68 1 = .pointer (some ⟨g1, 0, none⟩) := (congrFun qe68 1).trans s1_e67
      have s2_e68 : e68 2 = .pointer (some ⟨g2, 0, none⟩) := (congrFun qe68 2).trans s2_e67
      have s35_e68 : e68 35 = .int .i64 y17 := (congrFun qe68 35).trans s35_e67
      clear qe68
      obtain ⟨x21, qx21, h⟩ := lt_e h
      have lx21 : x21.length = 5 := (congrArg List.length qx21).trans (List.length_set.trans lx20)
      have hp : Hp w0 Ws w [⟨g1, 0, ints .u64 x21⟩, ⟨g2, 0, ints .u8 (List.replicate 32 (0 : Int))⟩] [] := by rw [qx21]; exact hp
      refine wregionT field_Element_Bytes.o15 (.tp 0 (.tp 1 (.done))) [] rfl rfl (by kernel_rfl) (by kernel_rfl) ?_
      refine k_bin (X := .int .i64 y17) (Y := .int .i64 1) rfl s35_e68 rfl rfl ?_
      refine k_move (v := .int .i64 (IntKind.i64.wrap (y17 + 1))) rfl rfl ?_
      refine k_end ?_; intro e69 qe69
      have s1_e69 : e69 1 = .pointer (some ⟨g1, 0, none⟩) := (congrFun qe69 1).trans s1_e68
      have s2_e69 : e69 2 = .pointer (some ⟨g2, 0, none⟩) := (congrFun qe69 2).trans s2_e68
      obtain ⟨x22, qx22, h⟩ := lt_e h
      have s35_e69 : e69 35 = .int .i64 x22 := (congrFun qe69 35).trans (congrArg (Value.int .i64) qx22.symm)
      clear qe69
      exact ih x21 x22 _ _ lx21 s1_e69 s2_e69 s35_e69 (hp.drop (L' := [⟨g1, 0, ints .u64 x21⟩, ⟨g2, 0, ints .u8 (List.replicate 32 (0 : Int))⟩]) (List.Sublist.refl _)) h
    · replace h := br_f hb h
      refine wexit rfl ?_
      exact hQ0 _ _ y16 ly16 s1_e65 s2_e65 (hp.drop (L' := [⟨g1, 0, ints .u64 y16⟩, ⟨g2, 0, ints .u8 (List.replicate 32 (0 : Int))⟩]) (List.Sublist.refl _)) (Option.some.inj h).symm
theorem field_Element_Bytes.p4_ok {w0 : World} {Ws : List Wr} {Q : Exit → Env → World → Prop} (g1 g2 g25 : Nat) (y28 : Int) (x30 : Int) (x26 : List Int) (m24 : List Int) (lm24 : m24.length = 5) (lx26 : x26.length = 4) {r : List Int} (hQ0 : ∀ (e' : Env) (w' : World) (z0 : List Int), z0.length = 32 → e' 2 = .pointer (some ⟨g2, 0, none⟩) → e' 7 = .pointer (some ⟨g25, 0, none⟩) → e' 85 = .agg (ints .u64 x26).toArray → e' 86 = .int .i64 y28 → Hp w0 Ws w' [⟨g1, 0, ints .u64 (m24.set 4 (bits .and .u64 (m24.getD 4 0) 2251799813685247))⟩, ⟨g2, 0, ints .u8 (List.replicate 32 (0 : Int))⟩, ⟨g25, 0, ints .u8 z0⟩] [] → r = (z0) → Q (.exit 6) e' w') : ∀ (k : Nat), ∀ (y31 : List Int) (y32 : Int) (e : Env) (w : World) (ly31 : y31.length = 32) (s2_e : e 2 = .pointer (some ⟨g2, 0, none⟩)) (s7_e : e 7 = .pointer (some ⟨g25, 0, none⟩)) (s8_e : e 8 = .int .i64 y28) (s9_e : e 9 = .int .u64 x30) (s85_e : e 85 = .agg (ints .u64 x26).toArray) (s86_e : e 86 = .int .i64 y28) (s90_e : e 90 = .int .i64 y32) (hp : Hp w0 Ws w [⟨g1, 0, ints .u64 (m24.set 4 (bits .and .u64 (m24.getD 4 0) 2251799813685247))⟩, ⟨g2, 0, ints .u8 (List.replicate 32 (0 : Int))⟩, ⟨g25, 0, ints .u8 y31⟩] []) (h : field_Element_Bytes.p4 k y28 x30 y31 y32 = some r), Lp Try.prog Try.f56.ntmps (at_ (fbody Try.f56) [1, 1, 1, 1, 1, 1, 1, 1, 0, 1, 0, 0, 1, 1, 0, 0, 1, 1, 0, 0]) Q k e w := by
  intro k
  induction k with
  | zero => intro y31 y32 e w ly31 s2_e s7_e s8_e s9_e s85_e s86_e s90_e hp h; cases h
  | succ k ih =>
    intro y31 y32 e w ly31 s2_e s7_e s8_e s9_e s85_e s86_e s90_e hp h
    unfold field_Element_Bytes.p4 at h
    show Wp _ _ _ _ _ _
    refine wseqP (p0 := [1, 1, 1, 1, 1, 1, 1, 1, 0, 1, 0, 0, 1, 1, 0, 0, 1, 1, 0, 0, 0]) (p1 := [1, 1, 1, 1, 1, 1, 1, 1, 0, 1, 0, 0, 1, 1, 0, 0, 1, 1, 0, 0, 1]) rfl rfl rfl ?_
    refine wregionT field_Element_Bytes.o22 (.tp 0 (.done)) [] rfl rfl (by kernel_rfl) (by kernel_rfl) ?_
    refine k_bin (X := .int .i64 y32) (Y := .int .i64 8) rfl s90_e rfl rfl ?_
    refine k_end ?_; intro e77 qe77
    have s2_e77 : e77 2 = .pointer (some ⟨g2, 0, none⟩) := (congrFun qe77 2).trans s2_e
    have s7_e77 : e77 7 = .pointer (some ⟨g25, 0, none⟩) := (congrFun qe77 7).trans s7_e
    have s8_e77 : e77 8 = .int .i64 y28 := (congrFun qe77 8).trans s8_e
    have s9_e77 : e77 9 = .int .u64 x30 := (congrFun qe77 9).trans s9_e
    have s85_e77 : e77 85 = .agg (ints .u64 x26).toArray := (congrFun qe77 85).trans s85_e
    have s86_e77 : e77 86 = .int .i64 y28 := (congrFun qe77 86).trans s86_e
    have s90_e77 : e77 90 = .int .i64 y32 := (congrFun qe77 90).trans s90_e
    have s91_e77 : e77 91 = .bool (decide (y32 < 8)) := congrFun qe77 91
    clear qe77
    refine wseqP (p0 := [1, 1, 1, 1, 1, 1, 1, 1, 0, 1, 0, 0, 1, 1, 0, 0, 1, 1, 0, 0, 1, 0]) (p1 := [1, 1, 1, 1, 1, 1, 1, 1, 0, 1, 0, 0, 1, 1, 0, 0, 1, 1, 0, 0, 1, 1]) rfl rfl rfl ?_
    refine wcondP (p0 := [1, 1, 1, 1, 1, 1, 1, 1, 0, 1, 0, 0, 1, 1, 0, 0, 1, 1, 0, 0, 1, 0, 0]) (p1 := [1, 1, 1, 1, 1, 1, 1, 1, 0, 1, 0, 0, 1, 1, 0, 0, 1, 1, 0, 0, 1, 0, 1]) (t := (decide (y32 < 8))) rfl rfl rfl (by decide) s91_e77 (fun hb => ?_) (fun hb => ?_)
    · replace h := br_t hb h
      refine wskip rfl ?_
      refine wseqP (p0 := [1, 1, 1, 1, 1, 1, 1, 1, 0, 1, 0, 0, 1, 1, 0, 0, 1, 1, 0, 0, 1, 1, 0]) (p1 := [1, 1, 1, 1, 1, 1, 1, 1, 0, 1, 0, 0, 1, 1, 0, 0, 1, 1, 0, 0, 1, 1, 1]) rfl rfl rfl ?_
      refine wblockP (p0 := [1, 1, 1, 1, 1, 1, 1, 1, 0, 1, 0, 0, 1, 1, 0, 0, 1, 1, 0, 0, 1, 1, 0, 0]) 7 rfl rfl ?_
      refine wseqP (p0 := [1, 1, 1, 1, 1, 1, 1, 1, 0, 1, 0, 0, 1, 1, 0, 0, 1, 1, 0, 0, 1, 1, 0, 0, 0]) (p1 := [1, 1, 1, 1, 1, 1, 1, 1, 0, 1, 0, 0, 1, 1, 0, 0, 1, 1, 0, 0, 1, 1, 0, 0, 1]) rfl rfl rfl ?_
      refine wregionT field_Element_Bytes.o23 (.tp 0 (.tp 1 (.done))) [] rfl rfl (by kernel_rfl) (by kernel_rfl) ?_
      refine k_move (v := .int .i64 y32) rfl s90_e77 ?_
      refine k_assign (v := .int .i64 y32) rfl rfl ?_
      refine k_end ?_; intro e78 qe78
      have s2_e78 : e78 2 = .pointer (some ⟨g2, 0, none⟩) := (congrFun qe78 2).trans s2_e77
      have s7_e78 : e78 7 = .pointer (some ⟨g25, 0, none⟩) := (congrFun qe78 7).trans s7_e77
      have s8_e78 : e78 8 = .int .i64 y28 := (congrFun qe78 8).trans s8_e77
      have s9_e78 : e78 9 = .int .u64 x30 := (congrFun qe78 9).trans s9_e77
      have s10_e78 : e78 10 = .int .i64 y32 := congrFun qe78 10
      have s85_e78 : e78 85 = .agg (ints .u64 x26).toArray := (congrFun qe78 85).trans s85_e77
      have s86_e78 : e78 86 = .int .i64 y28 := (congrFun qe78 86).trans s86_e77
      have s90_e78 : e78 90 = .int .i64 y32 := (congrFun qe78 90).trans s90_e77
      clear qe78
      refine wregionT field_Element_Bytes.o24 (.tp 0 (.tp 1 (.tp 2 (.tp 3 (.tp 4 (.tp 5 (.tp 6 (.tp 7 (.tp 8 (.tp 9 (.ef 10 (.done)))))))))))) [10] rfl rfl (by kernel_rfl) (by kernel_rfl) ?_
      refine k_move (v := .int .i64 y28) rfl s8_e78 ?_
      refine k_bin (X := .int .i64 8) (Y := .int .i64 y28) rfl rfl rfl rfl ?_
      refine k_move (v := .int .i64 y32) rfl s10_e78 ?_
      refine k_bin (X := .int .i64 (IntKind.i64.wrap (8 * y28))) (Y := .int .i64 y32) rfl rfl rfl rfl ?_
      refine k_move (v := .int .u64 x30) rfl s9_e78 ?_
      refine k_move (v := .int .i64 y32) rfl s10_e78 ?_
      refine k_bin (X := .int .i64 8) (Y := .int .i64 y32) rfl rfl rfl rfl ?_
      obtain ⟨c33, h⟩ := chk_e h
      refine k_shr (a := x30) (b := (IntKind.i64.wrap (8 * y32))) rfl rfl rfl c33 ?_
      refine k_conv (k := .u8) (k' := .u64) (n := (Int.fdiv x30 (2 ^ (min ((IntKind.i64.wrap (8 * y32)) : Int).toNat (IntKind.u64).bits)))) rfl Try.underlying38 Try.underlying5 rfl ?_
      obtain ⟨c34, h⟩ := chk_e h
      refine k_indexA (n := 32) (s := 1) (j := (IntKind.i64.wrap ((IntKind.i64.wrap (8 * y28)) + y32))) rfl Try.underlying22 (by kernel_rfl) s7_e78 rfl c34 ?_
      refine k_store (v := .int .u8 (IntKind.u8.wrap (Int.fdiv x30 (2 ^ (min ((IntKind.i64.wrap (8 * y32)) : Int).toNat (IntKind.u64).bits))))) 2 ((IntKind.i64.wrap ((IntKind.i64.wrap (8 * y28)) + y32)) : Int).toNat (r := ⟨g25, 0, ints .u8 y31⟩) rfl (by kernel_rfl) rfl rfl rfl hp rfl rfl (show 0 + ((IntKind.i64.wrap ((IntKind.i64.wrap (8 * y28)) + y32)) : Int).toNat * 1 = 0 + ((IntKind.i64.wrap ((IntKind.i64.wrap (8 * y28)) + y32)) : Int).toNat by omega) (Nat.lt_of_lt_of_eq (idx_lt c34 ly31) (ints_length _ _).symm) (by decide) ?_; intro w hp; rw [ints_set] at hp
      refine k_end ?_; intro e79 qe79
      have s2_e79 : e79 2 = .pointer (some ⟨g2, 0, none⟩) := (congrFun qe79 2).trans s2_e78
      have s7_e79 : e79 7 = .pointer (some ⟨g25, 0, none⟩) := (congrFun qe79 7).trans s7_e78
      have s8_e79 : e79 8 = .int .i64 y28 := (congrFun qe79 8).trans s8_e78
      have s9_e79 : e79 9 = .int .u64 x30 := (congrFun qe79 9).trans s9_e78
      have s85_e79 : e79 85 = .agg (ints .u64 x26).toArray := (congrFun qe79 85).trans s85_e78
      have s86_e79 : e79 86 = .int .i64 y28 := (congrFun qe79 86).trans s86_e78
      have s90_e79 : e79 90 = .int .i64 y32 := (congrFun qe79 90).trans s90_e78
      clear qe79
      obtain ⟨x35, qx35, h⟩ := lt_e h
      have lx35 : x35.length = 32 := (congrArg List.length qx35).trans (List.length_set.trans ly31)
      have hp : Hp w0 Ws w [⟨g1, 0, ints .u64 (m24.set 4 (bits .and .u64 (m24.getD 4 0) 2251799813685247))⟩, ⟨g2, 0, ints .u8 (List.replicate 32 (0 : Int))⟩, ⟨g25, 0, ints .u8 x35⟩] [] := by rw [qx35]; exact hp
      refine wregionT field_Element_Bytes.o25 (.tp 0 (.tp 1 (.done))) [] rfl rfl (by kernel_rfl) (by kernel_rfl) ?_
      refine k_bin (X := .int .i64 y32) (Y := .int .i64 1) rfl s90_e79 rfl rfl ?_
      refine k_move (v := .int .i64 (IntKind.i64.wrap (y32 + 1))) rfl rfl ?_
      refine k_end ?_; intro e80 qe80
      have s2_e80 : e80 2 = .pointer (some ⟨g2, 0, none⟩) := (congrFun qe80 2).trans s2_e79
      have s7_e80 : e80 7 = .pointer (some ⟨g25, 0, none⟩) := (congrFun qe80 7).trans s7_e79
      have s8_e80 : e80 8 = .int .i64 y28 := (congrFun qe80 8).trans s8_e79
      have s9_e80 : e80 9 = .int .u64 x30 := (congrFun qe80 9).trans s9_e79
      have s85_e80 : e80 85 = .agg (ints .u64 x26).toArray := (congrFun qe80 85).trans s85_e79
      have s86_e80 : e80 86 = .int .i64 y28 := (congrFun qe80 86).trans s86_e79
      obtain ⟨x36, qx36, h⟩ := lt_e h
      have s90_e80 : e80 90 = .int .i64 x36 := (congrFun qe80 90).trans (congrArg (Value.int .i64) qx36.symm)
      clear qe80
      exact ih x35 x36 _ _ lx35 s2_e80 s7_e80 s8_e80 s9_e80 s85_e80 s86_e80 s90_e80 (hp.drop (L' := [⟨g1, 0, ints .u64 (m24.set 4 (bits .and .u64 (m24.getD 4 0) 2251799813685247))⟩, ⟨g2, 0, ints .u8 (List.replicate 32 (0 : Int))⟩, ⟨g25, 0, ints .u8 x35⟩]) (List.Sublist.refl _)) h
    · replace h := br_f hb h
      refine wexit rfl ?_
      exact hQ0 _ _ y31 ly31 s2_e77 s7_e77 s85_e77 s86_e77 (hp.drop (L' := [⟨g1, 0, ints .u64 (m24.set 4 (bits .and .u64 (m24.getD 4 0) 2251799813685247))⟩, ⟨g2, 0, ints .u8 (List.replicate 32 (0 : Int))⟩, ⟨g25, 0, ints .u8 y31⟩]) (List.Sublist.refl _)) (Option.some.inj h).symm
theorem field_Element_Bytes.p3_ok {w0 : World} {Ws : List Wr} {Q : Exit → Env → World → Prop} (g1 g2 g25 : Nat) (x26 : List Int) (m24 : List Int) (lm24 : m24.length = 5) (lx26 : x26.length = 4) {r : List Int} (hQ0 : ∀ (e' : Env) (w' : World) (z0 : List Int), z0.length = 32 → e' 2 = .pointer (some ⟨g2, 0, none⟩) → e' 7 = .pointer (some ⟨g25, 0, none⟩) → Hp w0 Ws w' [⟨g1, 0, ints .u64 (m24.set 4 (bits .and .u64 (m24.getD 4 0) 2251799813685247))⟩, ⟨g2, 0, ints .u8 (List.replicate 32 (0 : Int))⟩, ⟨g25, 0, ints .u8 z0⟩] [] → r = (z0) → Q (.exit 4) e' w') : ∀ (k : Nat), ∀ (y27 : List Int) (y28 : Int) (e : Env) (w : World) (ly27 : y27.length = 32) (s2_e : e 2 = .pointer (some ⟨g2, 0, none⟩)) (s7_e : e 7 = .pointer (some ⟨g25, 0, none⟩)) (s85_e : e 85 = .agg (ints .u64 x26).toArray) (s86_e : e 86 = .int .i64 y28) (hp : Hp w0 Ws w [⟨g1, 0, ints .u64 (m24.set 4 (bits .and .u64 (m24.getD 4 0) 2251799813685247))⟩, ⟨g2, 0, ints .u8 (List.replicate 32 (0 : Int))⟩, ⟨g25, 0, ints .u8 y27⟩] []) (h : field_Element_Bytes.p3 k x26 y27 y28 = some r), Lp Try.prog Try.f56.ntmps (at_ (fbody Try.f56) [1, 1, 1, 1, 1, 1, 1, 1, 0, 1, 0, 0]) Q k e w := by
  intro k
  induction k with
  | zero => intro y27 y28 e w ly27 s2_e s7_e s85_e s86_e hp h; cases h
  | succ k ih =>
    intro y27 y28 e w ly27 s2_e s7_e s85_e s86_e hp h
    unfold field_Element_Bytes.p3 at h
    show Wp _ _ _ _ _ _
    refine wseqP (p0 := [1, 1, 1, 1, 1, 1, 1, 1, 0, 1, 0, 0, 0]) (p1 := [1, 1, 1, 1, 1, 1, 1, 1, 0, 1, 0, 0, 1]) rfl rfl rfl ?_
    refine wregionT field_Element_Bytes.o19 (.tp 0 (.done)) [] rfl rfl (by kernel_rfl) (by kernel_rfl) ?_
    refine k_bin (X := .int .i64 y28) (Y := .int .i64 4) rfl s86_e rfl rfl ?_
    refine k_end ?_; intro e74 qe74
    have s2_e74 : e74 2 = .pointer (some ⟨g2, 0, none⟩) := (congrFun qe74 2).trans s2_e
    have s7_e74 : e74 7 = .pointer (some ⟨g25, 0, none⟩) := (congrFun qe74 7).trans s7_e
    have s85_e74 : e74 85 = .agg (ints .u64 x26).toArray := (congrFun qe74 85).trans s85_e
    have s86_e74 : e74 86 = .int .i64 y28 := (congrFun qe74 86).trans s86_e
    have s87_e74 : e74 87 = .bool (decide (y28 < 4)) := congrFun qe74 87
    clear qe74
    refine wseqP (p0 := [1, 1, 1, 1, 1, 1, 1, 1, 0, 1, 0, 0, 1, 0]) (p1 := [1, 1, 1, 1, 1, 1, 1, 1, 0, 1, 0, 0, 1, 1]) rfl rfl rfl ?_
    refine wcondP (p0 := [1, 1, 1, 1, 1, 1, 1, 1, 0, 1, 0, 0, 1, 0, 0]) (p1 := [1, 1, 1, 1, 1, 1, 1, 1, 0, 1, 0, 0, 1, 0, 1]) (t := (decide (y28 < 4))) rfl rfl rfl (by decide) s87_e74 (fun hb => ?_) (fun hb => ?_)
    · replace h := br_t hb h
      refine wskip rfl ?_
      refine wseqP (p0 := [1, 1, 1, 1, 1, 1, 1, 1, 0, 1, 0, 0, 1, 1, 0]) (p1 := [1, 1, 1, 1, 1, 1, 1, 1, 0, 1, 0, 0, 1, 1, 1]) rfl rfl rfl ?_
      refine wblockP (p0 := [1, 1, 1, 1, 1, 1, 1, 1, 0, 1, 0, 0, 1, 1, 0, 0]) 5 rfl rfl ?_
      refine wseqP (p0 := [1, 1, 1, 1, 1, 1, 1, 1, 0, 1, 0, 0, 1, 1, 0, 0, 0]) (p1 := [1, 1, 1, 1, 1, 1, 1, 1, 0, 1, 0, 0, 1, 1, 0, 0, 1]) rfl rfl rfl ?_
      refine wregionT field_Element_Bytes.o20 (.tp 0 (.tp 1 (.tp 2 (.tp 3 (.done))))) [] rfl rfl (by kernel_rfl) (by kernel_rfl) ?_
      refine k_move (v := .int .i64 y28) rfl s86_e74 ?_
      obtain ⟨c29, h⟩ := chk_e h
      refine k_index (n := 4) (v := .int .u64 (x26.getD (y28 : Int).toNat 0)) rfl Try.underlying49 (by kernel_rfl) (by kernel_rfl) s85_e74 s86_e74 c29 (ints_get (idx_lt c29 lx26)) ?_
      refine k_assign (v := .int .i64 y28) rfl rfl ?_
      refine k_assign (v := .int .u64 (x26.getD (y28 : Int).toNat 0)) rfl rfl ?_
      refine k_end ?_; intro e75 qe75
      have s2_e75 : e75 2 = .pointer (some ⟨g2, 0, none⟩) := (congrFun qe75 2).trans s2_e74
      have s7_e75 : e75 7 = .pointer (some ⟨g25, 0, none⟩) := (congrFun qe75 7).trans s7_e74
      have s8_e75 : e75 8 = .int .i64 y28 := congrFun qe75 8
      obtain ⟨x30, qx30, h⟩ := lt_e h
      have s9_e75 : e75 9 = .int .u64 x30 := (congrFun qe75 9).trans (congrArg (Value.int .u64) qx30.symm)
      have s85_e75 : e75 85 = .agg (ints .u64 x26).toArray := (congrFun qe75 85).trans s85_e74
      have s86_e75 : e75 86 = .int .i64 y28 := (congrFun qe75 86).trans s86_e74
      clear qe75
      refine wseqP (p0 := [1, 1, 1, 1, 1, 1, 1, 1, 0, 1, 0, 0, 1, 1, 0, 0, 1, 0]) (p1 := [1, 1, 1, 1, 1, 1, 1, 1, 0, 1, 0, 0, 1, 1, 0, 0, 1, 1]) rfl rfl rfl ?_
      refine wregionT field_Element_Bytes.o21 (.tp 0 (.done)) [] rfl rfl (by kernel_rfl) (by kernel_rfl) ?_
      refine k_move (v := .int .i64 0) rfl rfl ?_
      refine k_end ?_; intro e76 qe76
      have s2_e76 : e76 2 = .pointer (some ⟨g2, 0, none⟩) := (congrFun qe76 2).trans s2_e75
      have s7_e76 : e76 7 = .pointer (some ⟨g25, 0, none⟩) := (congrFun qe76 7).trans s7_e75
      have s8_e76 : e76 8 = .int .i64 y28 := (congrFun qe76 8).trans s8_e75
      have s9_e76 : e76 9 = .int .u64 x30 := (congrFun qe76 9).trans s9_e75
      have s85_e76 : e76 85 = .agg (ints .u64 x26).toArray := (congrFun qe76 85).trans s85_e75
      have s86_e76 : e76 86 = .int .i64 y28 := (congrFun qe76 86).trans s86_e75
      have s90_e76 : e76 90 = .int .i64 0 := congrFun qe76 90
      clear qe76
      refine wblockP (p0 := [1, 1, 1, 1, 1, 1, 1, 1, 0, 1, 0, 0, 1, 1, 0, 0, 1, 1, 0]) 6 rfl rfl ?_
      obtain ⟨r37, qr37, h⟩ := bd_e h
      refine wloopP (p0 := [1, 1, 1, 1, 1, 1, 1, 1, 0, 1, 0, 0, 1, 1, 0, 0, 1, 1, 0, 0]) k rfl rfl (field_Element_Bytes.p4_ok g1 g2 g25 y28 x30 x26 m24 lm24 lx26 ?hq0 k y27 0 e76 _ ly27 s2_e76 s7_e76 s8_e76 s9_e76 s85_e76 s86_e76 s90_e76 hp qr37)
      case hq0 =>
        intro e81 w m38 lm38 s2_e81 s7_e81 s85_e81 s86_e81 hp qq
        rw [qq] at h; clear qq
        refine wregionT field_Element_Bytes.o26 (.tp 0 (.tp 1 (.done))) [] rfl rfl (by kernel_rfl) (by kernel_rfl) ?_
        refine k_bin (X := .int .i64 y28) (Y := .int .i64 1) rfl s86_e81 rfl rfl ?_
        refine k_move (v := .int .i64 (IntKind.i64.wrap (y28 + 1))) rfl rfl ?_
        refine k_end ?_; intro e82 qe82
        have s2_e82 : e82 2 = .pointer (some ⟨g2, 0, none⟩) := (congrFun qe82 2).trans s2_e81
        have s7_e82 : e82 7 = .pointer (some ⟨g25, 0, none⟩) := (congrFun qe82 7).trans s7_e81
        have s85_e82 : e82 85 = .agg (ints .u64 x26).toArray := (congrFun qe82 85).trans s85_e81
        obtain ⟨x39, qx39, h⟩ := lt_e h
        have s86_e82 : e82 86 = .int .i64 x39 := (congrFun qe82 86).trans (congrArg (Value.int .i64) qx39.symm)
        clear qe82
        exact ih m38 x39 _ _ lm38 s2_e82 s7_e82 s85_e82 s86_e82 (hp.drop (L' := [⟨g1, 0, ints .u64 (m24.set 4 (bits .and .u64 (m24.getD 4 0) 2251799813685247))⟩, ⟨g2, 0, ints .u8 (List.replicate 32 (0 : Int))⟩, ⟨g25, 0, ints .u8 m38⟩]) (List.Sublist.refl _)) h
    · replace h := br_f hb h
      refine wexit rfl ?_
      exact hQ0 _ _ y27 ly27 s2_e74 s7_e74 (hp.drop (L' := [⟨g1, 0, ints .u64 (m24.set 4 (bits .and .u64 (m24.getD 4 0) 2251799813685247))⟩, ⟨g2, 0, ints .u8 (List.replicate 32 (0 : Int))⟩, ⟨g25, 0, ints .u8 y27⟩]) (List.Sublist.refl _)) (Option.some.inj h).symm
set_option maxHeartbeats 4000000 in
theorem field_Element_Bytes_ok (k : Nat) (a0 : List Int) (la0 : a0.length = 5) (w0 : World) (hp : Hp w0 [] w0 [] []) {r : List Int} (h : field_Element_Bytes.f k a0 = some r) :
    Calls Try.prog 56 [.agg (ints .u64 a0).toArray].toArray w0 fun x w' => ∃ v, x = .returned v ∧ v = .agg (ints .u8 r).toArray ∧ r.length = 32 ∧ Hp w0 [] w' [] [] := by
  refine calls_inP Try.func56 rfl (Nat.le_of_ble_eq_true (by kernel_rfl)) (by kernel_rfl) ?_
  intro e0 qe0
  have s0_e0 : e0 0 = .agg (ints .u64 a0).toArray := congrFun qe0 0
  clear qe0
  unfold field_Element_Bytes.f at h
  refine wseqP (p0 := [0]) (p1 := [1]) rfl rfl rfl ?_
  refine wregionT field_Element_Bytes.o1 (.ef 0 (.ef 1 (.done))) [] rfl rfl (by kernel_rfl) (by kernel_rfl) ?_
  refine k_box (v := .agg (ints .u64 a0).toArray) (ints .u64 a0) rfl s0_e0 rfl hp ?_
  intro g1 w hbg1 hp
  refine k_alloc (ints .u8 (List.replicate 32 (0 : Int))) rfl (by kernel_rfl) hp ?_
  intro g2 w hbg2 hp
  refine k_end ?_; intro e54 qe54
  have s1_e54 : e54 1 = .pointer (some ⟨g1, 0, none⟩) := congrFun qe54 1
  have s2_e54 : e54 2 = .pointer (some ⟨g2, 0, none⟩) := congrFun qe54 2
  clear qe54
  refine wseqP (p0 := [1, 0]) (p1 := [1, 1]) rfl rfl rfl ?_
  refine wregionT field_Element_Bytes.o2 (.tk 0 (.ef 1 (.ef 2 (.ef 3 (.done))))) [3] rfl rfl (by kernel_rfl) (by kernel_rfl) ?_
  refine k_loadA (n := 5) (xs := ints .u64 a0) 0 rfl (by kernel_rfl) (by kernel_rfl) s1_e54 (hp.get (j := 0) rfl) rfl rfl ((ints_length _ _).trans la0) (fun m v hm => by rw [Nat.zero_add]; exact hm) ?_
  obtain ⟨r3, qr3, h⟩ := bd_e h
  refine k_call [.agg (ints .u64 a0).toArray] rfl (by kernel_rfl) (args1 rfl) (field_Element_carried_ok a0 la0 _ (hp.toR (fun _ h => by cases h)) qr3) ?_
  rintro _ w' ⟨_, rfl, rfl, lr30, hpc⟩
  refine ⟨_, rfl, .inr (.of_below hpc.chg.to_below), ?_⟩; have hp := hp.below hpc.chg.to_below; clear hpc
  obtain ⟨r4, qr4, h⟩ := bd_e h
  refine k_call [.agg (ints .u64 r3).toArray] rfl (by kernel_rfl) (args1 rfl) (field_Element_carried_ok r3 lr30 _ (hp.toR (fun _ h => by cases h)) qr4) ?_
  rintro _ w' ⟨_, rfl, rfl, lr40, hpc⟩
  refine ⟨_, rfl, .inr (.of_below hpc.chg.to_below), ?_⟩; have hp := hp.below hpc.chg.to_below; clear hpc
  refine k_storeA (v := .agg (ints .u64 r4).toArray) 0 0 (r := ⟨g1, 0, ints .u64 a0⟩) (ints .u64 r4) (ints .u64 r4) rfl (n := 5) (by kernel_rfl) s1_e54 rfl rfl ((ints_length _ _).trans lr40) (ints_one _ _) hp rfl rfl rfl (Nat.le_of_eq ((Nat.zero_add _).trans ((ints_length _ _).trans la0).symm)) (setMany_all _ _ (((ints_length _ _).trans lr40).trans ((ints_length _ _).trans la0).symm)) (by decide) ?_; intro w hp
  refine k_end ?_; intro e55 qe55
  have s1_e55 : e55 1 = .pointer (some ⟨g1, 0, none⟩) := (congrFun qe55 1).trans s1_e54
  have s2_e55 : e55 2 = .pointer (some ⟨g2, 0, none⟩) := (congrFun qe55 2).trans s2_e54
  clear qe55
  refine wseqP (p0 := [1, 1, 0]) (p1 := [1, 1, 1]) rfl rfl rfl ?_
  refine wregionT field_Element_Bytes.o3 (.tp 0 (.tk 1 (.tp 2 (.tp 3 (.tp 4 (.done)))))) [] rfl rfl (by kernel_rfl) (by kernel_rfl) ?_
  refine k_indexA (n := 5) (s := 1) (j := 0) rfl Try.underlying40 (by kernel_rfl) s1_e55 rfl (by decide) ?_
  refine k_load (j := 0) (v := .int .u64 (r4.getD 0 0)) rfl (by kernel_rfl) rfl (hp.get (j := 0) rfl) rfl rfl (ints_get (Nat.lt_of_lt_of_eq (m := 5) (by decide) (lr40).symm)) ?_
  refine k_bin (X := .int .u64 (r4.getD 0 0)) (Y := .int .u64 19) rfl rfl rfl rfl ?_
  refine k_shr (a := (IntKind.u64.wrap ((r4.getD 0 0) + 19))) (b := 51) rfl rfl rfl (by decide) ?_
  refine k_assign (v := .int .u64 (Int.fdiv (IntKind.u64.wrap ((r4.getD 0 0) + 19)) (2 ^ 51))) rfl rfl ?_
  refine k_end ?_; intro e56 qe56
  have s1_e56 : e56 1 = .pointer (some ⟨g1, 0, none⟩) := (congrFun qe56 1).trans s1_e55
  have s2_e56 : e56 2 = .pointer (some ⟨g2, 0, none⟩) := (congrFun qe56 2).trans s2_e55
  obtain ⟨x5, qx5, h⟩ := lt_e h
  have s3_e56 : e56 3 = .int .u64 x5 := (congrFun qe56 3).trans (congrArg (Value.int .u64) qx5.symm)
  clear qe56
  refine wseqP (p0 := [1, 1, 1, 0]) (p1 := [1, 1, 1, 1]) rfl rfl rfl ?_
  refine wseqP (p0 := [1, 1, 1, 0, 0]) (p1 := [1, 1, 1, 0, 1]) rfl rfl rfl ?_
  refine wregionT field_Element_Bytes.o4 (.tp 0 (.tp 1 (.tp 2 (.done)))) [] rfl rfl (by kernel_rfl) (by kernel_rfl) ?_
  refine k_sliceA (n := 5) (s := 1) (l := 1) (h' := 5) rfl Try.underlying40 (by kernel_rfl) s1_e56 rfl ⟨_, rfl, by decide⟩ (by decide) ?_
  refine k_len rfl Try.underlying94 rfl ?_
  refine k_move (v := .int .i64 0) rfl rfl ?_
  refine k_end ?_; intro e57 qe57
  have s1_e57 : e57 1 = .pointer (some ⟨g1, 0, none⟩) := (congrFun qe57 1).trans s1_e56
  have s2_e57 : e57 2 = .pointer (some ⟨g2, 0, none⟩) := (congrFun qe57 2).trans s2_e56
  have s3_e57 : e57 3 = .int .u64 x5 := (congrFun qe57 3).trans s3_e56
  have s18_e57 : e57 18 = .slice (some ⟨g1, 0 + 1 * 1, none⟩) (5 - 1) (5 - 1) := congrFun qe57 18
  obtain ⟨x6, qx6, h⟩ := lt_e h
  have s19_e57 : e57 19 = .int .i64 x6 := (congrFun qe57 19).trans (congrArg (Value.int .i64) qx6.symm)
  have s20_e57 : e57 20 = .int .i64 0 := congrFun qe57 20
  clear qe57
  refine wblockP (p0 := [1, 1, 1, 0, 1, 0]) 0 rfl rfl ?_
  obtain ⟨r13, qr13, h⟩ := bd_e h
  refine wloopP (p0 := [1, 1, 1, 0, 1, 0, 0]) k rfl rfl (field_Element_Bytes.p1_ok g1 g2 x6 r4 lr40 ?hq0 k x5 0 e57 _  s1_e57 s2_e57 s3_e57 s18_e57 s19_e57 s20_e57 hp qr13)
  case hq0 =>
    intro e62 w m14  s1_e62 s2_e62 s3_e62 hp qq
    rw [qq] at h; clear qq
    refine wseqP (p0 := [1, 1, 1, 1, 0]) (p1 := [1, 1, 1, 1, 1]) rfl rfl rfl ?_
    refine wregionT field_Element_Bytes.o9 (.tp 0 (.tk 1 (.tp 2 (.tp 3 (.tp 4 (.tp 5 (.ef 6 (.done)))))))) [6] rfl rfl (by kernel_rfl) (by kernel_rfl) ?_
    refine k_indexA (n := 5) (s := 1) (j := 0) rfl Try.underlying40 (by kernel_rfl) s1_e62 rfl (by decide) ?_
    refine k_load (j := 0) (v := .int .u64 (r4.getD 0 0)) rfl (by kernel_rfl) rfl (hp.get (j := 0) rfl) rfl rfl (ints_get (Nat.lt_of_lt_of_eq (m := 5) (by decide) (lr40).symm)) ?_
    refine k_move (v := .int .u64 m14) rfl s3_e62 ?_
    refine k_bin (X := .int .u64 19) (Y := .int .u64 m14) rfl rfl rfl rfl ?_
    refine k_bin (X := .int .u64 (r4.getD 0 0)) (Y := .int .u64 (IntKind.u64.wrap (19 * m14))) rfl rfl rfl rfl ?_
    refine k_indexA (n := 5) (s := 1) (j := 0) rfl Try.underlying40 (by kernel_rfl) s1_e62 rfl (by decide) ?_
    refine k_store (v := .int .u64 (IntKind.u64.wrap ((r4.getD 0 0) + (IntKind.u64.wrap (19 * m14))))) 0 0 (r := ⟨g1, 0, ints .u64 r4⟩) rfl (by kernel_rfl) rfl rfl rfl hp rfl rfl rfl (Nat.lt_of_lt_of_eq (Nat.lt_of_lt_of_eq (m := 5) (by decide) (lr40).symm) (ints_length _ _).symm) (by decide) ?_; intro w hp; rw [ints_set] at hp
    refine k_end ?_; intro e63 qe63
    have s1_e63 : e63 1 = .pointer (some ⟨g1, 0, none⟩) := (congrFun qe63 1).trans s1_e62
    have s2_e63 : e63 2 = .pointer (some ⟨g2, 0, none⟩) := (congrFun qe63 2).trans s2_e62
    clear qe63
    obtain ⟨x15, qx15, h⟩ := lt_e h
    have lx15 : x15.length = 5 := (congrArg List.length qx15).trans (List.length_set.trans lr40)
    have hp : Hp w0 [] w [⟨g1, 0, ints .u64 x15⟩, ⟨g2, 0, ints .u8 (List.replicate 32 (0 : Int))⟩] [] := by rw [qx15]; exact hp
    refine wseqP (p0 := [1, 1, 1, 1, 1, 0]) (p1 := [1, 1, 1, 1, 1, 1]) rfl rfl rfl ?_
    refine wseqP (p0 := [1, 1, 1, 1, 1, 0, 0]) (p1 := [1, 1, 1, 1, 1, 0, 1]) rfl rfl rfl ?_
    refine wregionT field_Element_Bytes.o10 (.tp 0 (.done)) [] rfl rfl (by kernel_rfl) (by kernel_rfl) ?_
    refine k_move (v := .int .i64 0) rfl rfl ?_
    refine k_end ?_; intro e64 qe64
    have s1_e64 : e64 1 = .pointer (some ⟨g1, 0, none⟩) := (congrFun qe64 1).trans s1_e63
    have s2_e64 : e64 2 = .pointer (some ⟨g2, 0, none⟩) := (congrFun qe64 2).trans s2_e63
    have s35_e64 : e64 35 = .int .i64 0 := congrFun qe64 35
    clear qe64
    refine wblockP (p0 := [1, 1, 1, 1, 1, 0, 1, 0]) 2 rfl rfl ?_
    obtain ⟨r23, qr23, h⟩ := bd_e h
    refine wloopP (p0 := [1, 1, 1, 1, 1, 0, 1, 0, 0]) k rfl rfl (field_Element_Bytes.p2_ok g1 g2   ?hq0 k x15 0 e64 _ lx15 s1_e64 s2_e64 s35_e64 hp qr23)
    case hq0 =>
      intro e70 w m24 lm24 s1_e70 s2_e70 hp qq
      rw [qq] at h; clear qq
      refine wseqP (p0 := [1, 1, 1, 1, 1, 1, 0]) (p1 := [1, 1, 1, 1, 1, 1, 1]) rfl rfl rfl ?_
      refine wregionT field_Element_Bytes.o16 (.tp 0 (.tk 1 (.tp 2 (.tp 3 (.ef 4 (.done)))))) [4] rfl rfl (by kernel_rfl) (by kernel_rfl) ?_
      refine k_indexA (n := 5) (s := 1) (j := 4) rfl Try.underlying40 (by kernel_rfl) s1_e70 rfl (by decide) ?_
      refine k_load (j := 4) (v := .int .u64 (m24.getD 4 0)) rfl (by kernel_rfl) rfl (hp.get (j := 0) rfl) rfl rfl (ints_get (Nat.lt_of_lt_of_eq (m := 5) (by decide) (lm24).symm)) ?_
      refine k_bin (X := .int .u64 (m24.getD 4 0)) (Y := .int .u64 2251799813685247) rfl rfl rfl rfl ?_
      refine k_indexA (n := 5) (s := 1) (j := 4) rfl Try.underlying40 (by kernel_rfl) s1_e70 rfl (by decide) ?_
      refine k_store (v := .int .u64 (bits .and .u64 (m24.getD 4 0) 2251799813685247)) 0 4 (r := ⟨g1, 0, ints .u64 m24⟩) rfl (by kernel_rfl) rfl rfl rfl hp rfl rfl rfl (Nat.lt_of_lt_of_eq (Nat.lt_of_lt_of_eq (m := 5) (by decide) (lm24).symm) (ints_length _ _).symm) (by decide) ?_; intro w hp; rw [ints_set] at hp
      refine k_end ?_; intro e71 qe71
      have s1_e71 : e71 1 = .pointer (some ⟨g1, 0, none⟩) := (congrFun qe71 1).trans s1_e70
      have s2_e71 : e71 2 = .pointer (some ⟨g2, 0, none⟩) := (congrFun qe71 2).trans s2_e70
      clear qe71
      refine wseqP (p0 := [1, 1, 1, 1, 1, 1, 1, 0]) (p1 := [1, 1, 1, 1, 1, 1, 1, 1]) rfl rfl rfl ?_
      refine wregionT field_Element_Bytes.o17 (.ef 0 (.done)) [] rfl rfl (by kernel_rfl) (by kernel_rfl) ?_
      refine k_alloc (ints .u8 (List.replicate 32 (0 : Int))) rfl (by kernel_rfl) hp ?_
      intro g25 w hbg25 hp
      refine k_end ?_; intro e72 qe72
      have s1_e72 : e72 1 = .pointer (some ⟨g1, 0, none⟩) := (congrFun qe72 1).trans s1_e71
      have s2_e72 : e72 2 = .pointer (some ⟨g2, 0, none⟩) := (congrFun qe72 2).trans s2_e71
      have s7_e72 : e72 7 = .pointer (some ⟨g25, 0, none⟩) := congrFun qe72 7
      clear qe72
      refine wseqP (p0 := [1, 1, 1, 1, 1, 1, 1, 1, 0]) (p1 := [1, 1, 1, 1, 1, 1, 1, 1, 1]) rfl rfl rfl ?_
      refine wseqP (p0 := [1, 1, 1, 1, 1, 1, 1, 1, 0, 0]) (p1 := [1, 1, 1, 1, 1, 1, 1, 1, 0, 1]) rfl rfl rfl ?_
      refine wregionT field_Element_Bytes.o18 (.tp 0 (.tk 1 (.tp 2 (.tk 3 (.tp 4 (.tp 5 (.tp 6 (.tk 7 (.tp 8 (.tp 9 (.tk 10 (.tp 11 (.tp 12 (.tp 13 (.tk 14 (.tp 15 (.tp 16 (.tk 17 (.tp 18 (.tp 19 (.tp 20 (.tk 21 (.tp 22 (.tp 23 (.tk 24 (.tp 25 (.tp 26 (.tp 27 (.tp 28 (.done)))))))))))))))))))))))))))))) [] rfl rfl (by kernel_rfl) (by kernel_rfl) ?_
      refine k_indexA (n := 5) (s := 1) (j := 0) rfl Try.underlying40 (by kernel_rfl) s1_e72 rfl (by decide) ?_
      refine k_load (j := 0) (v := .int .u64 ((m24.set 4 (bits .and .u64 (m24.getD 4 0) 2251799813685247)).getD 0 0)) rfl (by kernel_rfl) rfl (hp.get (j := 0) rfl) rfl rfl (ints_get (Nat.lt_of_lt_of_eq (m := 5) (by decide) (List.length_set.trans lm24).symm)) ?_
      refine k_indexA (n := 5) (s := 1) (j := 1) rfl Try.underlying40 (by kernel_rfl) s1_e72 rfl (by decide) ?_
      refine k_load (j := 1) (v := .int .u64 ((m24.set 4 (bits .and .u64 (m24.getD 4 0) 2251799813685247)).getD 1 0)) rfl (by kernel_rfl) rfl (hp.get (j := 0) rfl) rfl rfl (ints_get (Nat.lt_of_lt_of_eq (m := 5) (by decide) (List.length_set.trans lm24).symm)) ?_
      refine k_shl (a := ((m24.set 4 (bits .and .u64 (m24.getD 4 0) 2251799813685247)).getD 1 0)) (b := 51) rfl rfl rfl (by decide) ?_
      refine k_bin (X := .int .u64 ((m24.set 4 (bits .and .u64 (m24.getD 4 0) 2251799813685247)).getD 0 0)) (Y := .int .u64 (IntKind.u64.wrap (((m24.set 4 (bits .and .u64 (m24.getD 4 0) 2251799813685247)).getD 1 0) * 2 ^ 51))) rfl rfl rfl rfl ?_
      refine k_indexA (n := 5) (s := 1) (j := 1) rfl Try.underlying40 (by kernel_rfl) s1_e72 rfl (by decide) ?_
      refine k_load (j := 1) (v := .int .u64 ((m24.set 4 (bits .and .u64 (m24.getD 4 0) 2251799813685247)).getD 1 0)) rfl (by kernel_rfl) rfl (hp.get (j := 0) rfl) rfl rfl (ints_get (Nat.lt_of_lt_of_eq (m := 5) (by decide) (List.length_set.trans lm24).symm)) ?_
      refine k_shr (a := ((m24.set 4 (bits .and .u64 (m24.getD 4 0) 2251799813685247)).getD 1 0)) (b := 13) rfl rfl rfl (by decide) ?_
      refine k_indexA (n := 5) (s := 1) (j := 2) rfl Try.underlying40 (by kernel_rfl) s1_e72 rfl (by decide) ?_
      refine k_load (j := 2) (v := .int .u64 ((m24.set 4 (bits .and .u64 (m24.getD 4 0) 2251799813685247)).getD 2 0)) rfl (by kernel_rfl) rfl (hp.get (j := 0) rfl) rfl rfl (ints_get (Nat.lt_of_lt_of_eq (m := 5) (by decide) (List.length_set.trans lm24).symm)) ?_
      refine k_shl (a := ((m24.set 4 (bits .and .u64 (m24.getD 4 0) 2251799813685247)).getD 2 0)) (b := 38) rfl rfl rfl (by decide) ?_
      refine k_bin (X := .int .u64 (Int.fdiv ((m24.set 4 (bits .and .u64 (m24.getD 4 0) 2251799813685247)).getD 1 0) (2 ^ 13))) (Y := .int .u64 (IntKind.u64.wrap (((m24.set 4 (bits .and .u64 (m24.getD 4 0) 2251799813685247)).getD 2 0) * 2 ^ 38))) rfl rfl rfl rfl ?_
      refine k_indexA (n := 5) (s := 1) (j := 2) rfl Try.underlying40 (by kernel_rfl) s1_e72 rfl (by decide) ?_
      refine k_load (j := 2) (v := .int .u64 ((m24.set 4 (bits .and .u64 (m24.getD 4 0) 2251799813685247)).getD 2 0)) rfl (by kernel_rfl) rfl (hp.get (j := 0) rfl) rfl rfl (ints_get (Nat.lt_of_lt_of_eq (m := 5) (by decide) (List.length_set.trans lm24).symm)) ?_
      refine k_shr (a := ((m24.set 4 (bits .and .u64 (m24.getD 4 0) 2251799813685247)).getD 2 0)) (b := 26) rfl rfl rfl (by decide) ?_
      refine k_indexA (n := 5) (s := 1) (j := 3) rfl Try.underlying40 (by kernel_rfl) s1_e72 rfl (by decide) ?_
      refine k_load (j := 3) (v := .int .u64 ((m24.set 4 (bits .and .u64 (m24.getD 4 0) 2251799813685247)).getD 3 0)) rfl (by kernel_rfl) rfl (hp.get (j := 0) rfl) rfl rfl (ints_get (Nat.lt_of_lt_of_eq (m := 5) (by decide) (List.length_set.trans lm24).symm)) ?_
      refine k_shl (a := ((m24.set 4 (bits .and .u64 (m24.getD 4 0) 2251799813685247)).getD 3 0)) (b := 25) rfl rfl rfl (by decide) ?_
      refine k_bin (X := .int .u64 (Int.fdiv ((m24.set 4 (bits .and .u64 (m24.getD 4 0) 2251799813685247)).getD 2 0) (2 ^ 26))) (Y := .int .u64 (IntKind.u64.wrap (((m24.set 4 (bits .and .u64 (m24.getD 4 0) 2251799813685247)).getD 3 0) * 2 ^ 25))) rfl rfl rfl rfl ?_
      refine k_indexA (n := 5) (s := 1) (j := 3) rfl Try.underlying40 (by kernel_rfl) s1_e72 rfl (by decide) ?_
      refine k_load (j := 3) (v := .int .u64 ((m24.set 4 (bits .and .u64 (m24.getD 4 0) 2251799813685247)).getD 3 0)) rfl (by kernel_rfl) rfl (hp.get (j := 0) rfl) rfl rfl (ints_get (Nat.lt_of_lt_of_eq (m := 5) (by decide) (List.length_set.trans lm24).symm)) ?_
      refine k_shr (a := ((m24.set 4 (bits .and .u64 (m24.getD 4 0) 2251799813685247)).getD 3 0)) (b := 39) rfl rfl rfl (by decide) ?_
      refine k_indexA (n := 5) (s := 1) (j := 4) rfl Try.underlying40 (by kernel_rfl) s1_e72 rfl (by decide) ?_
      refine k_load (j := 4) (v := .int .u64 ((m24.set 4 (bits .and .u64 (m24.getD 4 0) 2251799813685247)).getD 4 0)) rfl (by kernel_rfl) rfl (hp.get (j := 0) rfl) rfl rfl (ints_get (Nat.lt_of_lt_of_eq (m := 5) (by decide) (List.length_set.trans lm24).symm)) ?_
      refine k_shl (a := ((m24.set 4 (bits .and .u64 (m24.getD 4 0) 2251799813685247)).getD 4 0)) (b := 12) rfl rfl rfl (by decide) ?_
      refine k_bin (X := .int .u64 (Int.fdiv ((m24.set 4 (bits .and .u64 (m24.getD 4 0) 2251799813685247)).getD 3 0) (2 ^ 39))) (Y := .int .u64 (IntKind.u64.wrap (((m24.set 4 (bits .and .u64 (m24.getD 4 0) 2251799813685247)).getD 4 0) * 2 ^ 12))) rfl rfl rfl rfl ?_
      refine k_build (v := .agg (ints .u64 [(bits .or .u64 ((m24.set 4 (bits .and .u64 (m24.getD 4 0) 2251799813685247)).getD 0 0) (IntKind.u64.wrap (((m24.set 4 (bits .and .u64 (m24.getD 4 0) 2251799813685247)).getD 1 0) * 2 ^ 51))), (bits .or .u64 (Int.fdiv ((m24.set 4 (bits .and .u64 (m24.getD 4 0) 2251799813685247)).getD 1 0) (2 ^ 13)) (IntKind.u64.wrap (((m24.set 4 (bits .and .u64 (m24.getD 4 0) 2251799813685247)).getD 2 0) * 2 ^ 38))), (bits .or .u64 (Int.fdiv ((m24.set 4 (bits .and .u64 (m24.getD 4 0) 2251799813685247)).getD 2 0) (2 ^ 26)) (IntKind.u64.wrap (((m24.set 4 (bits .and .u64 (m24.getD 4 0) 2251799813685247)).getD 3 0) * 2 ^ 25))), (bits .or .u64 (Int.fdiv ((m24.set 4 (bits .and .u64 (m24.getD 4 0) 2251799813685247)).getD 3 0) (2 ^ 39)) (IntKind.u64.wrap (((m24.set 4 (bits .and .u64 (m24.getD 4 0) 2251799813685247)).getD 4 0) * 2 ^ 12)))]).toArray) rfl (fun _ => by kernel_rfl) ?_
      refine k_move (v := .int .i64 0) rfl rfl ?_
      refine k_end ?_; intro e73 qe73
      have s2_e73 : e73 2 = .pointer (some ⟨g2, 0, none⟩) := (congrFun qe73 2).trans s2_e72
      have s7_e73 : e73 7 = .pointer (some ⟨g25, 0, none⟩) := (congrFun qe73 7).trans s7_e72
      obtain ⟨x26, qx26, h⟩ := lt_e h
      have lx26 : x26.length = 4 := (congrArg List.length qx26).trans (rfl : List.length ([(bits .or .u64 ((m24.set 4 (bits .and .u64 (m24.getD 4 0) 2251799813685247)).getD 0 0) (IntKind.u64.wrap (((m24.set 4 (bits .and .u64 (m24.getD 4 0) 2251799813685247)).getD 1 0) * 2 ^ 51))), (bits .or .u64 (Int.fdiv ((m24.set 4 (bits .and .u64 (m24.getD 4 0) 2251799813685247)).getD 1 0) (2 ^ 13)) (IntKind.u64.wrap (((m24.set 4 (bits .and .u64 (m24.getD 4 0) 2251799813685247)).getD 2 0) * 2 ^ 38))), (bits .or .u64 (Int.fdiv ((m24.set 4 (bits .and .u64 (m24.getD 4 0) 2251799813685247)).getD 2 0) (2 ^ 26)) (IntKind.u64.wrap (((m24.set 4 (bits .and .u64 (m24.getD 4 0) 2251799813685247)).getD 3 0) * 2 ^ 25))), (bits .or .u64 (Int.fdiv ((m24.set 4 (bits .and .u64 (m24.getD 4 0) 2251799813685247)).getD 3 0) (2 ^ 39)) (IntKind.u64.wrap (((m24.set 4 (bits .and .u64 (m24.getD 4 0) 2251799813685247)).getD 4 0) * 2 ^ 12)))] : List Int) = 4)
      have s85_e73 : e73 85 = .agg (ints .u64 x26).toArray := (congrFun qe73 85).trans (congrArg (fun z => Value.agg (ints .u64 z).toArray) qx26.symm)
      have s86_e73 : e73 86 = .int .i64 0 := congrFun qe73 86
      clear qe73
      refine wblockP (p0 := [1, 1, 1, 1, 1, 1, 1, 1, 0, 1, 0]) 4 rfl rfl ?_
      obtain ⟨r40, qr40, h⟩ := bd_e h
      refine wloopP (p0 := [1, 1, 1, 1, 1, 1, 1, 1, 0, 1, 0, 0]) k rfl rfl (field_Element_Bytes.p3_ok g1 g2 g25 x26 m24 lm24 lx26 ?hq0 k (List.replicate 32 (0 : Int)) 0 e73 _ List.length_replicate s2_e73 s7_e73 s85_e73 s86_e73 hp qr40)
      case hq0 =>
        intro e83 w m41 lm41 s2_e83 s7_e83 hp qq
        rw [qq] at h; clear qq
        refine wseqP (p0 := [1, 1, 1, 1, 1, 1, 1, 1, 1, 0]) (p1 := [1, 1, 1, 1, 1, 1, 1, 1, 1, 1]) rfl rfl rfl ?_
        refine wregionT field_Element_Bytes.o27 (.tk 0 (.ef 1 (.done))) [1] rfl rfl (by kernel_rfl) (by kernel_rfl) ?_
        refine k_loadA (n := 32) (xs := ints .u8 m41) 0 rfl (by kernel_rfl) (by kernel_rfl) s7_e83 (hp.get (j := 2) rfl) rfl rfl ((ints_length _ _).trans lm41) (fun m v hm => by rw [Nat.zero_add]; exact hm) ?_
        refine k_storeA (v := .agg (ints .u8 m41).toArray) 1 0 (r := ⟨g2, 0, ints .u8 (List.replicate 32 (0 : Int))⟩) (ints .u8 m41) (ints .u8 m41) rfl (n := 32) (by kernel_rfl) s2_e83 rfl rfl ((ints_length _ _).trans lm41) (ints_one _ _) hp rfl rfl rfl (Nat.le_of_eq ((Nat.zero_add _).trans ((ints_length _ _).trans List.length_replicate).symm)) (setMany_all _ _ (((ints_length _ _).trans lm41).trans ((ints_length _ _).trans List.length_replicate).symm)) (by decide) ?_; intro w hp
        refine k_end ?_; intro e84 qe84
        have s2_e84 : e84 2 = .pointer (some ⟨g2, 0, none⟩) := (congrFun qe84 2).trans s2_e83
        clear qe84
        refine wret rfl ?_
        have hr : r = m41 := (Option.some.inj h).symm
        show RetP _ _ _ _ _
        rw [hr]
        exact ret_i [.agg (ints .u8 m41).toArray] (res_cell s2_e84 (loadVar_agg (by kernel_rfl) (by kernel_rfl) ((ints_length _ _).trans lm41) (hp.get (j := 1) rfl) rfl rfl rfl) res_nil) ⟨rfl, lm41, hp.none⟩
/-! 57 (postilion/field.Element).Odd -/
noncomputable def field_Element_Odd.o1 : Array Oper := opsC (at_ (fbody Try.f57) [0])
noncomputable def field_Element_Odd.o2 : Array Oper := opsC (at_ (fbody Try.f57) [1, 0])
theorem field_Element_Odd_ok (k : Nat) (a0 : List Int) (la0 : a0.length = 5) (w0 : World) (hp : Hp w0 [] w0 [] []) {r : Bool} (h : field_Element_Odd.f k a0 = some r) :
    Calls Try.prog 57 [.agg (ints .u64 a0).toArray].toArray w0 fun x w' => ∃ v, x = .returned v ∧ v = .bool r ∧ Hp w0 [] w' [] [] := by
  refine calls_inP Try.func57 rfl (Nat.le_of_ble_eq_true (by kernel_rfl)) (by kernel_rfl) ?_
  intro e0 qe0
  have s0_e0 : e0 0 = .agg (ints .u64 a0).toArray := congrFun qe0 0
  clear qe0
  unfold field_Element_Odd.f at h
  refine wseqP (p0 := [0]) (p1 := [1]) rfl rfl rfl ?_
  refine wregionT field_Element_Odd.o1 (.ef 0 (.tp 1 (.done))) [] rfl rfl (by kernel_rfl) (by kernel_rfl) ?_
  refine k_box (v := .agg (ints .u64 a0).toArray) (ints .u64 a0) rfl s0_e0 rfl hp ?_
  intro g1 w hbg1 hp
  refine k_assign (v := .bool false) rfl rfl ?_
  refine k_end ?_; intro e85 qe85
  have s1_e85 : e85 1 = .pointer (some ⟨g1, 0, none⟩) := congrFun qe85 1
  clear qe85
  refine wseqP (p0 := [1, 0]) (p1 := [1, 1]) rfl rfl rfl ?_
  refine wregionT field_Element_Odd.o2 (.tk 0 (.ef 1 (.tp 2 (.tp 3 (.tp 4 (.tp 5 (.done))))))) [] rfl rfl (by kernel_rfl) (by kernel_rfl) ?_
  refine k_loadA (n := 5) (xs := ints .u64 a0) 0 rfl (by kernel_rfl) (by kernel_rfl) s1_e85 (hp.get (j := 0) rfl) rfl rfl ((ints_length _ _).trans la0) (fun m v hm => by rw [Nat.zero_add]; exact hm) ?_
  obtain ⟨r2, qr2, h⟩ := bd_e h
  refine k_call [.agg (ints .u64 a0).toArray] rfl (by kernel_rfl) (args1 rfl) (field_Element_Bytes_ok k a0 la0 _ (hp.toR (fun _ h => by cases h)) qr2) ?_
  rintro _ w' ⟨_, rfl, rfl, lr20, hpc⟩
  refine ⟨_, rfl, .inr (.of_below hpc.chg.to_below), ?_⟩; have hp := hp.below hpc.chg.to_below; clear hpc
  refine k_index (n := 32) (v := .int .u8 (r2.getD 0 0)) rfl Try.underlying22 (by kernel_rfl) (by kernel_rfl) rfl rfl (by decide) (ints_get (Nat.lt_of_lt_of_eq (m := 32) (by decide) (lr20).symm)) ?_
  refine k_bin (X := .int .u8 (r2.getD 0 0)) (Y := .int .u8 1) rfl rfl rfl rfl ?_
  refine k_bin (X := .int .u8 (bits .and .u8 (r2.getD 0 0) 1)) (Y := .int .u8 1) rfl rfl rfl rfl ?_
  refine k_assign (v := .bool ((bits .and .u8 (r2.getD 0 0) 1) == 1)) rfl rfl ?_
  refine k_end ?_; intro e86 qe86
  have s2_e86 : e86 2 = .bool ((bits .and .u8 (r2.getD 0 0) 1) == 1) := congrFun qe86 2
  clear qe86
  refine wret rfl ?_
  have hr : r = ((bits .and .u8 (r2.getD 0 0) 1) == 1) := (Option.some.inj h).symm
  show RetP _ _ _ _ _
  rw [hr]
  exact ret_i [.bool ((bits .and .u8 (r2.getD 0 0) 1) == 1)] (res_tmp s2_e86 res_nil) ⟨rfl, hp.none⟩
end Go.Proofs.Ytalnjdcidmkajaa
