/-
  The walks: each function of the program form returns what its plain definition computes. Printed by my own program.
  Conditions: none; every function is taken as the given program's form has it.
-/
import Derived.Test.YtigbkodgnikigaaProg
import Derived.Test.YtigbkodgnikigaaX3
namespace Go.Proofs.Ytigbkodgnikigaa
open Go Go.Gx Go.RowKit
set_option linter.unusedVariables false
set_option maxRecDepth 100000
/-! 15 postilion/postilionref03.Mul -/
noncomputable def postilionref03_Mul.o1 : Array Oper := opsC (at_ (fbody Try.f15) [0])
noncomputable def postilionref03_Mul.o2 : Array Oper := opsC (at_ (fbody Try.f15) [1, 0])
noncomputable def postilionref03_Mul.o3 : Array Oper := opsC (at_ (fbody Try.f15) [1, 1, 0])
noncomputable def postilionref03_Mul.o4 : Array Oper := opsC (at_ (fbody Try.f15) [1, 1, 1, 0])
noncomputable def postilionref03_Mul.o5 : Array Oper := opsC (at_ (fbody Try.f15) [1, 1, 1, 1, 0])
noncomputable def postilionref03_Mul.o6 : Array Oper := opsC (at_ (fbody Try.f15) [1, 1, 1, 1, 1, 0])
noncomputable def postilionref03_Mul.o7 : Array Oper := opsC (at_ (fbody Try.f15) [1, 1, 1, 1, 1, 1, 0, 0])
noncomputable def postilionref03_Mul.o8 : Array Oper := opsC (at_ (fbody Try.f15) [1, 1, 1, 1, 1, 1, 0, 1, 0, 0, 0, 0])
noncomputable def postilionref03_Mul.o9 : Array Oper := opsC (at_ (fbody Try.f15) [1, 1, 1, 1, 1, 1, 0, 1, 0, 0, 1, 0, 0, 0])
noncomputable def postilionref03_Mul.o10 : Array Oper := opsC (at_ (fbody Try.f15) [1, 1, 1, 1, 1, 1, 0, 1, 0, 0, 1, 0, 0, 1, 0, 0])
noncomputable def postilionref03_Mul.o11 : Array Oper := opsC (at_ (fbody Try.f15) [1, 1, 1, 1, 1, 1, 0, 1, 0, 0, 1, 0, 0, 1, 0, 1, 0])
noncomputable def postilionref03_Mul.o12 : Array Oper := opsC (at_ (fbody Try.f15) [1, 1, 1, 1, 1, 1, 0, 1, 0, 0, 1, 0, 0, 1, 1, 0])
noncomputable def postilionref03_Mul.o13 : Array Oper := opsC (at_ (fbody Try.f15) [1, 1, 1, 1, 1, 1, 0, 1, 0, 0, 1, 0, 0, 1, 1, 1, 0])
noncomputable def postilionref03_Mul.o14 : Array Oper := opsC (at_ (fbody Try.f15) [1, 1, 1, 1, 1, 1, 0, 1, 0, 0, 1, 0, 0, 1, 1, 1, 1, 0])
noncomputable def postilionref03_Mul.o15 : Array Oper := opsC (at_ (fbody Try.f15) [1, 1, 1, 1, 1, 1, 0, 1, 0, 0, 1, 0, 0, 1, 1, 1, 1, 1, 0])
noncomputable def postilionref03_Mul.o16 : Array Oper := opsC (at_ (fbody Try.f15) [1, 1, 1, 1, 1, 1, 0, 1, 0, 0, 1, 0, 0, 1, 1, 1, 1, 1, 1, 0])
noncomputable def postilionref03_Mul.o17 : Array Oper := opsC (at_ (fbody Try.f15) [1, 1, 1, 1, 1, 1, 0, 1, 0, 0, 1, 0, 0, 1, 1, 1, 1, 1, 1, 1, 0])
noncomputable def postilionref03_Mul.o18 : Array Oper := opsC (at_ (fbody Try.f15) [1, 1, 1, 1, 1, 1, 0, 1, 0, 0, 1, 0, 0, 1, 1, 1, 1, 1, 1, 1, 1, 0])
noncomputable def postilionref03_Mul.o19 : Array Oper := opsC (at_ (fbody Try.f15) [1, 1, 1, 1, 1, 1, 0, 1, 0, 0, 1, 0, 0, 1, 1, 1, 1, 1, 1, 1, 1, 1, 0])
noncomputable def postilionref03_Mul.o20 : Array Oper := opsC (at_ (fbody Try.f15) [1, 1, 1, 1, 1, 1, 0, 1, 0, 0, 1, 1])
noncomputable def postilionref03_Mul.o21 : Array Oper := opsC (at_ (fbody Try.f15) [1, 1, 1, 1, 1, 1, 1, 0])
theorem postilionref03_Mul.p3_ok {w0 : World} {Ws : List Wr} {Q : Exit → Env → World → Prop} (g1 g10 g11 g12 g13 g2 g3 g6 : Nat) (y18 : Int) (x21 : Int) (x4 : List Int) (a1 : List Int) (r5 : List Int) (y14 : List Int) (y15 : List Int) (y16 : List Int) (y17 : List Int) (ly14 : y14.length = 4) (ly15 : y15.length = 4) (ly16 : y16.length = 4) (ly17 : y17.length = 4) (la1 : a1.length = 32) (lx4 : x4.length = 32) (lr50 : r5.length = 4) {r : List Int × List Int × List Int × List Int} (hQ0 : ∀ (e' : Env) (w' : World) (z0 : List Int) (z1 : List Int) (z2 : List Int) (z3 : List Int), z0.length = 4 → z1.length = 4 → z2.length = 4 → z3.length = 4 → e' 2 = .pointer (some ⟨g1, 0, none⟩) → e' 4 = .pointer (some ⟨g3, 0, none⟩) → e' 5 = .pointer (some ⟨g6, 0, none⟩) → e' 6 = .pointer (some ⟨g10, 0, none⟩) → e' 7 = .pointer (some ⟨g11, 0, none⟩) → e' 8 = .pointer (some ⟨g12, 0, none⟩) → e' 9 = .pointer (some ⟨g13, 0, none⟩) → e' 10 = .int .i64 y18 → e' 11 = .int .u8 x21 → Hp w0 Ws w' [⟨g1, 0, ints .u8 x4⟩, ⟨g2, 0, ints .u8 (a1.set 31 (bits .and .u8 (a1.getD 31 0) 127))⟩, ⟨g3, 0, ints .u8 (List.replicate 32 (0 : Int))⟩, ⟨g6, 0, ints .u64 r5⟩, ⟨g10, 0, ints .u64 z0⟩, ⟨g11, 0, ints .u64 z1⟩, ⟨g12, 0, ints .u64 z2⟩, ⟨g13, 0, ints .u64 z3⟩] [] → r = (z0, z1, z2, z3) → Q .normal e' w') (e : Env) (w : World) (s2_e : e 2 = .pointer (some ⟨g1, 0, none⟩)) (s4_e : e 4 = .pointer (some ⟨g3, 0, none⟩)) (s5_e : e 5 = .pointer (some ⟨g6, 0, none⟩)) (s6_e : e 6 = .pointer (some ⟨g10, 0, none⟩)) (s7_e : e 7 = .pointer (some ⟨g11, 0, none⟩)) (s8_e : e 8 = .pointer (some ⟨g12, 0, none⟩)) (s9_e : e 9 = .pointer (some ⟨g13, 0, none⟩)) (s10_e : e 10 = .int .i64 y18) (s11_e : e 11 = .int .u8 x21) (s51_e : e 51 = .bool (x21 == 1)) (hp : Hp w0 Ws w [⟨g1, 0, ints .u8 x4⟩, ⟨g2, 0, ints .u8 (a1.set 31 (bits .and .u8 (a1.getD 31 0) 127))⟩, ⟨g3, 0, ints .u8 (List.replicate 32 (0 : Int))⟩, ⟨g6, 0, ints .u64 r5⟩, ⟨g10, 0, ints .u64 y14⟩, ⟨g11, 0, ints .u64 y15⟩, ⟨g12, 0, ints .u64 y16⟩, ⟨g13, 0, ints .u64 y17⟩] []) (h : postilionref03_Mul.p3 x21 y14 y15 y16 y17 = some r) : Wp Try.prog Try.f15.ntmps (at_ (fbody Try.f15) [1, 1, 1, 1, 1, 1, 0, 1, 0, 0, 1, 0, 0, 1, 0, 1]) Q e w := by
  unfold postilionref03_Mul.p3 at h
  refine wcondP (p0 := [1, 1, 1, 1, 1, 1, 0, 1, 0, 0, 1, 0, 0, 1, 0, 1, 0]) (p1 := [1, 1, 1, 1, 1, 1, 0, 1, 0, 0, 1, 0, 0, 1, 0, 1, 1]) (t := (x21 == 1)) rfl rfl rfl (by decide) s51_e (fun hb => ?_) (fun hb => ?_)
  · replace h := br_t hb h
    refine wcut (fun e311 w2 => ((((e311 2 = .pointer (some ⟨g1, 0, none⟩) ∧ e311 4 = .pointer (some ⟨g3, 0, none⟩)) ∧ e311 5 = .pointer (some ⟨g6, 0, none⟩)) ∧ (e311 6 = .pointer (some ⟨g10, 0, none⟩) ∧ e311 7 = .pointer (some ⟨g11, 0, none⟩))) ∧ ((e311 8 = .pointer (some ⟨g12, 0, none⟩) ∧ e311 9 = .pointer (some ⟨g13, 0, none⟩)) ∧ (e311 10 = .int .i64 y18 ∧ e311 11 = .int .u8 x21))) ∧ Hp w0 Ws w2 [⟨g1, 0, ints .u8 x4⟩, ⟨g2, 0, ints .u8 (a1.set 31 (bits .and .u8 (a1.getD 31 0) 127))⟩, ⟨g3, 0, ints .u8 (List.replicate 32 (0 : Int))⟩, ⟨g6, 0, ints .u64 r5⟩, ⟨g10, 0, ints .u64 y16⟩, ⟨g11, 0, ints .u64 y17⟩, ⟨g12, 0, ints .u64 y14⟩, ⟨g13, 0, ints .u64 y15⟩] []) ?_ ?_
    rotate_left
    · refine wregionM postilionref03_Mul.o11 (.tk 0 (.tk 2 (.tk 3 (.rest 13 5)))) [4, 5, 6, 7] [(0, 0, 0), (0, 255, 255), (0, 0, 0), (0, 0, 0), (13, 255, 255), (31, 255, 255), (63, 255, 255), (127, 255, 255)] rfl rfl (by kernel_rfl) (by kernel_rfl) (Nat.le_of_ble_eq_true (by kernel_rfl)) (by kernel_rfl) (by kernel_rfl) (by kernel_rfl) ?_
      have hp := hp.drew
      refine k_loadA (n := 4) (xs := ints .u64 y16) 0 rfl (by kernel_rfl) (by kernel_rfl) s8_e (hp.get (j := 6) rfl) rfl rfl ((ints_length _ _).trans ly16) (fun m v hm => by rw [Nat.zero_add]; exact hm) ?_
      refine k_loadA (n := 4) (xs := ints .u64 y14) 0 rfl (by kernel_rfl) (by kernel_rfl) s6_e (hp.get (j := 4) rfl) rfl rfl ((ints_length _ _).trans ly14) (fun m v hm => by rw [Nat.zero_add]; exact hm) ?_
      refine k_loadA (n := 4) (xs := ints .u64 y15) 0 rfl (by kernel_rfl) (by kernel_rfl) s7_e (hp.get (j := 5) rfl) rfl rfl ((ints_length _ _).trans ly15) (fun m v hm => by rw [Nat.zero_add]; exact hm) ?_
      refine k_rest [1, 4, 5, 6, 7] (fun L e w => ∃ c_g10_0 c_g11_1 c_g12_2 c_g13_3 : List Int, ((((((((e 2 = .pointer (some ⟨g1, 0, none⟩) ∧ e 4 = .pointer (some ⟨g3, 0, none⟩)) ∧ e 5 = .pointer (some ⟨g6, 0, none⟩)) ∧ ((e 6 = .pointer (some ⟨g10, 0, none⟩) ∧ e 7 = .pointer (some ⟨g11, 0, none⟩)) ∧ e 8 = .pointer (some ⟨g12, 0, none⟩))) ∧ (((e 9 = .pointer (some ⟨g13, 0, none⟩) ∧ e 10 = .int .i64 y18) ∧ e 11 = .int .u8 x21) ∧ ((e 52 = .agg (ints .u64 y16).toArray ∧ e 54 = .agg (ints .u64 y14).toArray) ∧ e 55 = .agg (ints .u64 y15).toArray))) ∧ (L 1 = true → e 53 = .agg (ints .u64 y17).toArray)) ∧ (L 4 = false → c_g10_0 = y14)) ∧ ((L 4 = true → c_g10_0 = y16) ∧ (L 5 = false → c_g11_1 = y15))) ∧ ((((L 5 = true → c_g11_1 = y17) ∧ (L 6 = false → c_g12_2 = y16)) ∧ (L 6 = true → c_g12_2 = y14)) ∧ ((L 7 = false → c_g13_3 = y17) ∧ (L 7 = true → c_g13_3 = y15)))) ∧ Hp w0 Ws w [⟨g1, 0, ints .u8 x4⟩, ⟨g2, 0, ints .u8 (a1.set 31 (bits .and .u8 (a1.getD 31 0) 127))⟩, ⟨g3, 0, ints .u8 (List.replicate 32 (0 : Int))⟩, ⟨g6, 0, ints .u64 r5⟩, ⟨g10, 0, ints .u64 c_g10_0⟩, ⟨g11, 0, ints .u64 c_g11_1⟩, ⟨g12, 0, ints .u64 c_g12_2⟩, ⟨g13, 0, ints .u64 c_g13_3⟩] []) (by kernel_rfl) (by kernel_rfl) ?_ ?_ ?_
      · exact ⟨y14, y15, y16, y17, ⟨⟨⟨⟨⟨⟨⟨⟨s2_e, s4_e⟩, s5_e⟩, ⟨⟨s6_e, s7_e⟩, s8_e⟩⟩, ⟨⟨⟨s9_e, s10_e⟩, s11_e⟩, ⟨⟨rfl, rfl⟩, rfl⟩⟩⟩, (fun h => absurd h (by decide))⟩, (fun _ => rfl)⟩, ⟨(fun h => absurd h (by decide)), (fun _ => rfl)⟩⟩, ⟨⟨⟨(fun h => absurd h (by decide)), (fun _ => rfl)⟩, (fun h => absurd h (by decide))⟩, ⟨(fun _ => rfl), (fun h => absurd h (by decide))⟩⟩⟩, hp⟩
      · rintro L e w hall ⟨c_g10_0, c_g11_1, c_g12_2, c_g13_3, hF, hp⟩
        have qc_g10_0 := hF.1.2.1 (hall 4 rfl)
        rw [qc_g10_0] at hp
        have qc_g11_1 := hF.2.1.1.1 (hall 5 rfl)
        rw [qc_g11_1] at hp
        have qc_g12_2 := hF.2.1.2 (hall 6 rfl)
        rw [qc_g12_2] at hp
        have qc_g13_3 := hF.2.2.2 (hall 7 rfl)
        rw [qc_g13_3] at hp
        exact onlyN_i ⟨⟨⟨⟨⟨hF.1.1.1.1.1.1.1.1, hF.1.1.1.1.1.1.1.2⟩, hF.1.1.1.1.1.1.2⟩, ⟨hF.1.1.1.1.1.2.1.1, hF.1.1.1.1.1.2.1.2⟩⟩, ⟨⟨hF.1.1.1.1.1.2.2, hF.1.1.1.1.2.1.1.1⟩, ⟨hF.1.1.1.1.2.1.1.2, hF.1.1.1.1.2.1.2⟩⟩⟩, hp⟩
      refine allU_cons ?_ ?_
      · rintro L e w hLi hb hcl ⟨c_g10_0, c_g11_1, c_g12_2, c_g13_3, hF, hp⟩
        have qc_g13_3 := hF.2.2.1 (Bool.eq_false_iff.2 fun h => absurd (hLi.symm.trans (hcl 5 1 (by kernel_rfl) (hcl 6 5 (by kernel_rfl) (hcl 7 6 (by kernel_rfl) h)))) (by decide))
        rw [qc_g13_3] at hp
        refine tk_ef ?_
        refine k_loadA (n := 4) (xs := ints .u64 y17) 0 rfl (by kernel_rfl) (by kernel_rfl) hF.1.1.1.1.2.1.1.1 (hp.get (j := 7) rfl) rfl rfl ((ints_length _ _).trans ly17) (fun m v hm => by rw [Nat.zero_add]; exact hm) ?_
        exact k_done ⟨c_g10_0, c_g11_1, c_g12_2, y17, ⟨⟨⟨⟨hF.1.1.1.1, (fun _ => rfl)⟩, hF.1.1.2⟩, hF.1.2⟩, ⟨hF.2.1, ⟨(fun h => qc_g13_3.symm.trans (hF.2.2.1 h)), (fun h => qc_g13_3.symm.trans (hF.2.2.2 h))⟩⟩⟩, hp⟩
      refine allU_cons ?_ ?_
      · rintro L e w hLi hb hcl ⟨c_g10_0, c_g11_1, c_g12_2, c_g13_3, hF, hp⟩
        have qc_g10_0 := hF.1.1.2 hLi
        rw [qc_g10_0] at hp
        refine k_storeA (v := .agg (ints .u64 y16).toArray) 4 0 (r := ⟨g10, 0, ints .u64 y14⟩) (ints .u64 y16) (ints .u64 y16) rfl (n := 4) (by kernel_rfl) hF.1.1.1.1.1.2.1.1 hF.1.1.1.1.2.2.1.1 rfl ((ints_length _ _).trans ly16) (ints_one _ _) hp rfl rfl rfl (Nat.le_of_eq ((Nat.zero_add _).trans ((ints_length _ _).trans ly14).symm)) (setMany_all _ _ (((ints_length _ _).trans ly16).trans ((ints_length _ _).trans ly14).symm)) (by decide) ?_; intro w hp
        exact k_done ⟨y16, c_g11_1, c_g12_2, c_g13_3, ⟨⟨⟨hF.1.1.1, (fun h => nomatch (show true = false from h))⟩, ⟨(fun _ => rfl), hF.1.2.2⟩⟩, hF.2⟩, hp⟩
      refine allU_cons ?_ ?_
      · rintro L e w hLi hb hcl ⟨c_g10_0, c_g11_1, c_g12_2, c_g13_3, hF, hp⟩
        have hL1 := hb 1 (by kernel_rfl)
        have qc_g11_1 := hF.1.2.2 hLi
        rw [qc_g11_1] at hp
        refine k_storeA (v := .agg (ints .u64 y17).toArray) 5 0 (r := ⟨g11, 0, ints .u64 y15⟩) (ints .u64 y17) (ints .u64 y17) rfl (n := 4) (by kernel_rfl) hF.1.1.1.1.1.2.1.2 (hF.1.1.1.2 hL1) rfl ((ints_length _ _).trans ly17) (ints_one _ _) hp rfl rfl rfl (Nat.le_of_eq ((Nat.zero_add _).trans ((ints_length _ _).trans ly15).symm)) (setMany_all _ _ (((ints_length _ _).trans ly17).trans ((ints_length _ _).trans ly15).symm)) (by decide) ?_; intro w hp
        exact k_done ⟨c_g10_0, y17, c_g12_2, c_g13_3, ⟨⟨hF.1.1, ⟨hF.1.2.1, (fun h => nomatch (show true = false from h))⟩⟩, ⟨⟨⟨(fun _ => rfl), hF.2.1.1.2⟩, hF.2.1.2⟩, hF.2.2⟩⟩, hp⟩
      refine allU_cons ?_ ?_
      · rintro L e w hLi hb hcl ⟨c_g10_0, c_g11_1, c_g12_2, c_g13_3, hF, hp⟩
        have qc_g12_2 := hF.2.1.1.2 hLi
        rw [qc_g12_2] at hp
        refine k_storeA (v := .agg (ints .u64 y14).toArray) 6 0 (r := ⟨g12, 0, ints .u64 y16⟩) (ints .u64 y14) (ints .u64 y14) rfl (n := 4) (by kernel_rfl) hF.1.1.1.1.1.2.2 hF.1.1.1.1.2.2.1.2 rfl ((ints_length _ _).trans ly14) (ints_one _ _) hp rfl rfl rfl (Nat.le_of_eq ((Nat.zero_add _).trans ((ints_length _ _).trans ly16).symm)) (setMany_all _ _ (((ints_length _ _).trans ly14).trans ((ints_length _ _).trans ly16).symm)) (by decide) ?_; intro w hp
        exact k_done ⟨c_g10_0, c_g11_1, y14, c_g13_3, ⟨hF.1, ⟨⟨⟨hF.2.1.1.1, (fun h => nomatch (show true = false from h))⟩, (fun _ => rfl)⟩, hF.2.2⟩⟩, hp⟩
      refine allU_cons ?_ allU_nil
      · rintro L e w hLi hb hcl ⟨c_g10_0, c_g11_1, c_g12_2, c_g13_3, hF, hp⟩
        have qc_g13_3 := hF.2.2.1 hLi
        rw [qc_g13_3] at hp
        refine k_storeA (v := .agg (ints .u64 y15).toArray) 7 0 (r := ⟨g13, 0, ints .u64 y17⟩) (ints .u64 y15) (ints .u64 y15) rfl (n := 4) (by kernel_rfl) hF.1.1.1.1.2.1.1.1 hF.1.1.1.1.2.2.2 rfl ((ints_length _ _).trans ly15) (ints_one _ _) hp rfl rfl rfl (Nat.le_of_eq ((Nat.zero_add _).trans ((ints_length _ _).trans ly17).symm)) (setMany_all _ _ (((ints_length _ _).trans ly15).trans ((ints_length _ _).trans ly17).symm)) (by decide) ?_; intro w hp
        exact k_done ⟨c_g10_0, c_g11_1, c_g12_2, y15, ⟨hF.1, ⟨hF.2.1, ⟨(fun h => nomatch (show true = false from h)), (fun _ => rfl)⟩⟩⟩, hp⟩
    rintro e311 w ⟨hF, hp⟩
    have s2_e311 := hF.1.1.1.1
    have s4_e311 := hF.1.1.1.2
    have s5_e311 := hF.1.1.2
    have s6_e311 := hF.1.2.1
    have s7_e311 := hF.1.2.2
    have s8_e311 := hF.2.1.1
    have s9_e311 := hF.2.1.2
    have s10_e311 := hF.2.2.1
    have s11_e311 := hF.2.2.2
    clear hF
    exact hQ0 _ _ y16 y17 y14 y15 ly16 ly17 ly14 ly15 s2_e311 s4_e311 s5_e311 s6_e311 s7_e311 s8_e311 s9_e311 s10_e311 s11_e311 (hp.drop (L' := [⟨g1, 0, ints .u8 x4⟩, ⟨g2, 0, ints .u8 (a1.set 31 (bits .and .u8 (a1.getD 31 0) 127))⟩, ⟨g3, 0, ints .u8 (List.replicate 32 (0 : Int))⟩, ⟨g6, 0, ints .u64 r5⟩, ⟨g10, 0, ints .u64 y16⟩, ⟨g11, 0, ints .u64 y17⟩, ⟨g12, 0, ints .u64 y14⟩, ⟨g13, 0, ints .u64 y15⟩]) (List.Sublist.refl _)) (Option.some.inj h).symm
  · replace h := br_f hb h
    refine wskip rfl ?_
    exact hQ0 _ _ y14 y15 y16 y17 ly14 ly15 ly16 ly17 s2_e s4_e s5_e s6_e s7_e s8_e s9_e s10_e s11_e (hp.drop (L' := [⟨g1, 0, ints .u8 x4⟩, ⟨g2, 0, ints .u8 (a1.set 31 (bits .and .u8 (a1.getD 31 0) 127))⟩, ⟨g3, 0, ints .u8 (List.replicate 32 (0 : Int))⟩, ⟨g6, 0, ints .u64 r5⟩, ⟨g10, 0, ints .u64 y14⟩, ⟨g11, 0, ints .u64 y15⟩, ⟨g12, 0, ints .u64 y16⟩, ⟨g13, 0, ints .u64 y17⟩]) (List.Sublist.refl _)) (Option.some.inj h).symm
theorem postilionref03_Mul.p4_ok {w0 : World} {Ws : List Wr} {Q : Exit → Env → World → Prop} (g1 g10 g11 g12 g13 g2 g29 g3 g30 g33 g34 g36 g41 g42 g6 : Nat) (y18 : Int) (x21 : Int) (x4 : List Int) (a1 : List Int) (r5 : List Int) (r50 : List Int) (r54 : List Int) (r45 : List Int) (r49 : List Int) (r27 : List Int) (r28 : List Int) (r31 : List Int) (r32 : List Int) (r35 : List Int) (r38 : List Int) (r40 : List Int) (la1 : a1.length = 32) (lx4 : x4.length = 32) (lr50 : r5.length = 4) (lr270 : r27.length = 4) (lr280 : r28.length = 4) (lr310 : r31.length = 4) (lr320 : r32.length = 4) (lr350 : r35.length = 4) (lr380 : r38.length = 4) (lr400 : r40.length = 4) (lr450 : r45.length = 4) (lr490 : r49.length = 4) (lr500 : r50.length = 4) (lr540 : r54.length = 4) {r : List Int × List Int × List Int × List Int} (hQ0 : ∀ (e' : Env) (w' : World) (z0 : List Int) (z1 : List Int) (z2 : List Int) (z3 : List Int), z0.length = 4 → z1.length = 4 → z2.length = 4 → z3.length = 4 → e' 2 = .pointer (some ⟨g1, 0, none⟩) → e' 4 = .pointer (some ⟨g3, 0, none⟩) → e' 5 = .pointer (some ⟨g6, 0, none⟩) → e' 6 = .pointer (some ⟨g10, 0, none⟩) → e' 7 = .pointer (some ⟨g11, 0, none⟩) → e' 8 = .pointer (some ⟨g12, 0, none⟩) → e' 9 = .pointer (some ⟨g13, 0, none⟩) → e' 10 = .int .i64 y18 → Hp w0 Ws w' [⟨g1, 0, ints .u8 x4⟩, ⟨g2, 0, ints .u8 (a1.set 31 (bits .and .u8 (a1.getD 31 0) 127))⟩, ⟨g3, 0, ints .u8 (List.replicate 32 (0 : Int))⟩, ⟨g6, 0, ints .u64 r5⟩, ⟨g10, 0, ints .u64 z0⟩, ⟨g11, 0, ints .u64 z1⟩, ⟨g12, 0, ints .u64 z2⟩, ⟨g13, 0, ints .u64 z3⟩, ⟨g29, 0, ints .u64 r27⟩, ⟨g30, 0, ints .u64 r28⟩, ⟨g33, 0, ints .u64 r31⟩, ⟨g34, 0, ints .u64 r32⟩, ⟨g36, 0, ints .u64 r35⟩, ⟨g41, 0, ints .u64 r38⟩, ⟨g42, 0, ints .u64 r40⟩] [] → r = (z0, z1, z2, z3) → Q .normal e' w') (e : Env) (w : World) (s2_e : e 2 = .pointer (some ⟨g1, 0, none⟩)) (s4_e : e 4 = .pointer (some ⟨g3, 0, none⟩)) (s5_e : e 5 = .pointer (some ⟨g6, 0, none⟩)) (s6_e : e 6 = .pointer (some ⟨g10, 0, none⟩)) (s7_e : e 7 = .pointer (some ⟨g11, 0, none⟩)) (s8_e : e 8 = .pointer (some ⟨g12, 0, none⟩)) (s9_e : e 9 = .pointer (some ⟨g13, 0, none⟩)) (s10_e : e 10 = .int .i64 y18) (s108_e : e 108 = .bool (x21 == 1)) (hp : Hp w0 Ws w [⟨g1, 0, ints .u8 x4⟩, ⟨g2, 0, ints .u8 (a1.set 31 (bits .and .u8 (a1.getD 31 0) 127))⟩, ⟨g3, 0, ints .u8 (List.replicate 32 (0 : Int))⟩, ⟨g6, 0, ints .u64 r5⟩, ⟨g10, 0, ints .u64 r50⟩, ⟨g11, 0, ints .u64 r54⟩, ⟨g12, 0, ints .u64 r45⟩, ⟨g13, 0, ints .u64 r49⟩, ⟨g29, 0, ints .u64 r27⟩, ⟨g30, 0, ints .u64 r28⟩, ⟨g33, 0, ints .u64 r31⟩, ⟨g34, 0, ints .u64 r32⟩, ⟨g36, 0, ints .u64 r35⟩, ⟨g41, 0, ints .u64 r38⟩, ⟨g42, 0, ints .u64 r40⟩] []) (h : postilionref03_Mul.p4 x21 r50 r54 r45 r49 = some r) : Wp Try.prog Try.f15.ntmps (at_ (fbody Try.f15) [1, 1, 1, 1, 1, 1, 0, 1, 0, 0, 1, 0, 0, 1, 1, 1, 1, 1, 1, 1, 1, 1]) Q e w := by
  unfold postilionref03_Mul.p4 at h
  refine wcondP (p0 := [1, 1, 1, 1, 1, 1, 0, 1, 0, 0, 1, 0, 0, 1, 1, 1, 1, 1, 1, 1, 1, 1, 0]) (p1 := [1, 1, 1, 1, 1, 1, 0, 1, 0, 0, 1, 0, 0, 1, 1, 1, 1, 1, 1, 1, 1, 1, 1]) (t := (x21 == 1)) rfl rfl rfl (by decide) s108_e (fun hb => ?_) (fun hb => ?_)
  · replace h := br_t hb h
    refine wcut (fun e320 w2 => (((e320 2 = .pointer (some ⟨g1, 0, none⟩) ∧ e320 4 = .pointer (some ⟨g3, 0, none⟩)) ∧ (e320 5 = .pointer (some ⟨g6, 0, none⟩) ∧ e320 6 = .pointer (some ⟨g10, 0, none⟩))) ∧ ((e320 7 = .pointer (some ⟨g11, 0, none⟩) ∧ e320 8 = .pointer (some ⟨g12, 0, none⟩)) ∧ (e320 9 = .pointer (some ⟨g13, 0, none⟩) ∧ e320 10 = .int .i64 y18))) ∧ Hp w0 Ws w2 [⟨g1, 0, ints .u8 x4⟩, ⟨g2, 0, ints .u8 (a1.set 31 (bits .and .u8 (a1.getD 31 0) 127))⟩, ⟨g3, 0, ints .u8 (List.replicate 32 (0 : Int))⟩, ⟨g6, 0, ints .u64 r5⟩, ⟨g10, 0, ints .u64 r45⟩, ⟨g11, 0, ints .u64 r49⟩, ⟨g12, 0, ints .u64 r50⟩, ⟨g13, 0, ints .u64 r54⟩, ⟨g29, 0, ints .u64 r27⟩, ⟨g30, 0, ints .u64 r28⟩, ⟨g33, 0, ints .u64 r31⟩, ⟨g34, 0, ints .u64 r32⟩, ⟨g36, 0, ints .u64 r35⟩, ⟨g41, 0, ints .u64 r38⟩, ⟨g42, 0, ints .u64 r40⟩] []) ?_ ?_
    rotate_left
    · refine wregionM postilionref03_Mul.o19 (.tk 0 (.tk 2 (.tk 3 (.rest 13 5)))) [4, 5, 6, 7] [(0, 0, 0), (0, 255, 255), (0, 0, 0), (0, 0, 0), (13, 255, 255), (31, 255, 255), (63, 255, 255), (127, 255, 255)] rfl rfl (by kernel_rfl) (by kernel_rfl) (Nat.le_of_ble_eq_true (by kernel_rfl)) (by kernel_rfl) (by kernel_rfl) (by kernel_rfl) ?_
      have hp := hp.drew
      refine k_loadA (n := 4) (xs := ints .u64 r45) 0 rfl (by kernel_rfl) (by kernel_rfl) s8_e (hp.get (j := 6) rfl) rfl rfl ((ints_length _ _).trans lr450) (fun m v hm => by rw [Nat.zero_add]; exact hm) ?_
      refine k_loadA (n := 4) (xs := ints .u64 r50) 0 rfl (by kernel_rfl) (by kernel_rfl) s6_e (hp.get (j := 4) rfl) rfl rfl ((ints_length _ _).trans lr500) (fun m v hm => by rw [Nat.zero_add]; exact hm) ?_
      refine k_loadA (n := 4) (xs := ints .u64 r54) 0 rfl (by kernel_rfl) (by kernel_rfl) s7_e (hp.get (j := 5) rfl) rfl rfl ((ints_length _ _).trans lr540) (fun m v hm => by rw [Nat.zero_add]; exact hm) ?_
      refine k_rest [1, 4, 5, 6, 7] (fun L e w => ∃ c_g10_0 c_g11_1 c_g12_2 c_g13_3 : List Int, ((((((((e 2 = .pointer (some ⟨g1, 0, none⟩) ∧ e 4 = .pointer (some ⟨g3, 0, none⟩)) ∧ e 5 = .pointer (some ⟨g6, 0, none⟩)) ∧ ((e 6 = .pointer (some ⟨g10, 0, none⟩) ∧ e 7 = .pointer (some ⟨g11, 0, none⟩)) ∧ e 8 = .pointer (some ⟨g12, 0, none⟩))) ∧ (((e 9 = .pointer (some ⟨g13, 0, none⟩) ∧ e 10 = .int .i64 y18) ∧ e 109 = .agg (ints .u64 r45).toArray) ∧ (e 111 = .agg (ints .u64 r50).toArray ∧ e 112 = .agg (ints .u64 r54).toArray))) ∧ (L 1 = true → e 110 = .agg (ints .u64 r49).toArray)) ∧ (L 4 = false → c_g10_0 = r50)) ∧ ((L 4 = true → c_g10_0 = r45) ∧ (L 5 = false → c_g11_1 = r54))) ∧ ((((L 5 = true → c_g11_1 = r49) ∧ (L 6 = false → c_g12_2 = r45)) ∧ (L 6 = true → c_g12_2 = r50)) ∧ ((L 7 = false → c_g13_3 = r49) ∧ (L 7 = true → c_g13_3 = r54)))) ∧ Hp w0 Ws w [⟨g1, 0, ints .u8 x4⟩, ⟨g2, 0, ints .u8 (a1.set 31 (bits .and .u8 (a1.getD 31 0) 127))⟩, ⟨g3, 0, ints .u8 (List.replicate 32 (0 : Int))⟩, ⟨g6, 0, ints .u64 r5⟩, ⟨g10, 0, ints .u64 c_g10_0⟩, ⟨g11, 0, ints .u64 c_g11_1⟩, ⟨g12, 0, ints .u64 c_g12_2⟩, ⟨g13, 0, ints .u64 c_g13_3⟩, ⟨g29, 0, ints .u64 r27⟩, ⟨g30, 0, ints .u64 r28⟩, ⟨g33, 0, ints .u64 r31⟩, ⟨g34, 0, ints .u64 r32⟩, ⟨g36, 0, ints .u64 r35⟩, ⟨g41, 0, ints .u64 r38⟩, ⟨g42, 0, ints .u64 r40⟩] []) (by kernel_rfl) (by kernel_rfl) ?_ ?_ ?_
      · exact ⟨r50, r54, r45, r49, ⟨⟨⟨⟨⟨⟨⟨⟨s2_e, s4_e⟩, s5_e⟩, ⟨⟨s6_e, s7_e⟩, s8_e⟩⟩, ⟨⟨⟨s9_e, s10_e⟩, rfl⟩, ⟨rfl, rfl⟩⟩⟩, (fun h => absurd h (by decide))⟩, (fun _ => rfl)⟩, ⟨(fun h => absurd h (by decide)), (fun _ => rfl)⟩⟩, ⟨⟨⟨(fun h => absurd h (by decide)), (fun _ => rfl)⟩, (fun h => absurd h (by decide))⟩, ⟨(fun _ => rfl), (fun h => absurd h (by decide))⟩⟩⟩, hp⟩
      · rintro L e w hall ⟨c_g10_0, c_g11_1, c_g12_2, c_g13_3, hF, hp⟩
        have qc_g10_0 := hF.1.2.1 (hall 4 rfl)
        rw [qc_g10_0] at hp
        have qc_g11_1 := hF.2.1.1.1 (hall 5 rfl)
        rw [qc_g11_1] at hp
        have qc_g12_2 := hF.2.1.2 (hall 6 rfl)
        rw [qc_g12_2] at hp
        have qc_g13_3 := hF.2.2.2 (hall 7 rfl)
        rw [qc_g13_3] at hp
        exact onlyN_i ⟨⟨⟨⟨hF.1.1.1.1.1.1.1.1, hF.1.1.1.1.1.1.1.2⟩, ⟨hF.1.1.1.1.1.1.2, hF.1.1.1.1.1.2.1.1⟩⟩, ⟨⟨hF.1.1.1.1.1.2.1.2, hF.1.1.1.1.1.2.2⟩, ⟨hF.1.1.1.1.2.1.1.1, hF.1.1.1.1.2.1.1.2⟩⟩⟩, hp⟩
      refine allU_cons ?_ ?_
      · rintro L e w hLi hb hcl ⟨c_g10_0, c_g11_1, c_g12_2, c_g13_3, hF, hp⟩
        have qc_g13_3 := hF.2.2.1 (Bool.eq_false_iff.2 fun h => absurd (hLi.symm.trans (hcl 5 1 (by kernel_rfl) (hcl 6 5 (by kernel_rfl) (hcl 7 6 (by kernel_rfl) h)))) (by decide))
        rw [qc_g13_3] at hp
        refine tk_ef ?_
        refine k_loadA (n := 4) (xs := ints .u64 r49) 0 rfl (by kernel_rfl) (by kernel_rfl) hF.1.1.1.1.2.1.1.1 (hp.get (j := 7) rfl) rfl rfl ((ints_length _ _).trans lr490) (fun m v hm => by rw [Nat.zero_add]; exact hm) ?_
        exact k_done ⟨c_g10_0, c_g11_1, c_g12_2, r49, ⟨⟨⟨⟨hF.1.1.1.1, (fun _ => rfl)⟩, hF.1.1.2⟩, hF.1.2⟩, ⟨hF.2.1, ⟨(fun h => qc_g13_3.symm.trans (hF.2.2.1 h)), (fun h => qc_g13_3.symm.trans (hF.2.2.2 h))⟩⟩⟩, hp⟩
      refine allU_cons ?_ ?_
      · rintro L e w hLi hb hcl ⟨c_g10_0, c_g11_1, c_g12_2, c_g13_3, hF, hp⟩
        have qc_g10_0 := hF.1.1.2 hLi
        rw [qc_g10_0] at hp
        refine k_storeA (v := .agg (ints .u64 r45).toArray) 4 0 (r := ⟨g10, 0, ints .u64 r50⟩) (ints .u64 r45) (ints .u64 r45) rfl (n := 4) (by kernel_rfl) hF.1.1.1.1.1.2.1.1 hF.1.1.1.1.2.1.2 rfl ((ints_length _ _).trans lr450) (ints_one _ _) hp rfl rfl rfl (Nat.le_of_eq ((Nat.zero_add _).trans ((ints_length _ _).trans lr500).symm)) (setMany_all _ _ (((ints_length _ _).trans lr450).trans ((ints_length _ _).trans lr500).symm)) (by decide) ?_; intro w hp
        exact k_done ⟨r45, c_g11_1, c_g12_2, c_g13_3, ⟨⟨⟨hF.1.1.1, (fun h => nomatch (show true = false from h))⟩, ⟨(fun _ => rfl), hF.1.2.2⟩⟩, hF.2⟩, hp⟩
      refine allU_cons ?_ ?_
      · rintro L e w hLi hb hcl ⟨c_g10_0, c_g11_1, c_g12_2, c_g13_3, hF, hp⟩
        have hL1 := hb 1 (by kernel_rfl)
        have qc_g11_1 := hF.1.2.2 hLi
        rw [qc_g11_1] at hp
        refine k_storeA (v := .agg (ints .u64 r49).toArray) 5 0 (r := ⟨g11, 0, ints .u64 r54⟩) (ints .u64 r49) (ints .u64 r49) rfl (n := 4) (by kernel_rfl) hF.1.1.1.1.1.2.1.2 (hF.1.1.1.2 hL1) rfl ((ints_length _ _).trans lr490) (ints_one _ _) hp rfl rfl rfl (Nat.le_of_eq ((Nat.zero_add _).trans ((ints_length _ _).trans lr540).symm)) (setMany_all _ _ (((ints_length _ _).trans lr490).trans ((ints_length _ _).trans lr540).symm)) (by decide) ?_; intro w hp
        exact k_done ⟨c_g10_0, r49, c_g12_2, c_g13_3, ⟨⟨hF.1.1, ⟨hF.1.2.1, (fun h => nomatch (show true = false from h))⟩⟩, ⟨⟨⟨(fun _ => rfl), hF.2.1.1.2⟩, hF.2.1.2⟩, hF.2.2⟩⟩, hp⟩
      refine allU_cons ?_ ?_
      · rintro L e w hLi hb hcl ⟨c_g10_0, c_g11_1, c_g12_2, c_g13_3, hF, hp⟩
        have qc_g12_2 := hF.2.1.1.2 hLi
        rw [qc_g12_2] at hp
        refine k_storeA (v := .agg (ints .u64 r50).toArray) 6 0 (r := ⟨g12, 0, ints .u64 r45⟩) (ints .u64 r50) (ints .u64 r50) rfl (n := 4) (by kernel_rfl) hF.1.1.1.1.1.2.2 hF.1.1.1.1.2.2.1 rfl ((ints_length _ _).trans lr500) (ints_one _ _) hp rfl rfl rfl (Nat.le_of_eq ((Nat.zero_add _).trans ((ints_length _ _).trans lr450).symm)) (setMany_all _ _ (((ints_length _ _).trans lr500).trans ((ints_length _ _).trans lr450).symm)) (by decide) ?_; intro w hp
        exact k_done ⟨c_g10_0, c_g11_1, r50, c_g13_3, ⟨hF.1, ⟨⟨⟨hF.2.1.1.1, (fun h => nomatch (show true = false from h))⟩, (fun _ => rfl)⟩, hF.2.2⟩⟩, hp⟩
      refine allU_cons ?_ allU_nil
      · rintro L e w hLi hb hcl ⟨c_g10_0, c_g11_1, c_g12_2, c_g13_3, hF, hp⟩
        have qc_g13_3 := hF.2.2.1 hLi
        rw [qc_g13_3] at hp
        refine k_storeA (v := .agg (ints .u64 r54).toArray) 7 0 (r := ⟨g13, 0, ints .u64 r49⟩) (ints .u64 r54) (ints .u64 r54) rfl (n := 4) (by kernel_rfl) hF.1.1.1.1.2.1.1.1 hF.1.1.1.1.2.2.2 rfl ((ints_length _ _).trans lr540) (ints_one _ _) hp rfl rfl rfl (Nat.le_of_eq ((Nat.zero_add _).trans ((ints_length _ _).trans lr490).symm)) (setMany_all _ _ (((ints_length _ _).trans lr540).trans ((ints_length _ _).trans lr490).symm)) (by decide) ?_; intro w hp
        exact k_done ⟨c_g10_0, c_g11_1, c_g12_2, r54, ⟨hF.1, ⟨hF.2.1, ⟨(fun h => nomatch (show true = false from h)), (fun _ => rfl)⟩⟩⟩, hp⟩
    rintro e320 w ⟨hF, hp⟩
    have s2_e320 := hF.1.1.1
    have s4_e320 := hF.1.1.2
    have s5_e320 := hF.1.2.1
    have s6_e320 := hF.1.2.2
    have s7_e320 := hF.2.1.1
    have s8_e320 := hF.2.1.2
    have s9_e320 := hF.2.2.1
    have s10_e320 := hF.2.2.2
    clear hF
    exact hQ0 _ _ r45 r49 r50 r54 lr450 lr490 lr500 lr540 s2_e320 s4_e320 s5_e320 s6_e320 s7_e320 s8_e320 s9_e320 s10_e320 (hp.drop (L' := [⟨g1, 0, ints .u8 x4⟩, ⟨g2, 0, ints .u8 (a1.set 31 (bits .and .u8 (a1.getD 31 0) 127))⟩, ⟨g3, 0, ints .u8 (List.replicate 32 (0 : Int))⟩, ⟨g6, 0, ints .u64 r5⟩, ⟨g10, 0, ints .u64 r45⟩, ⟨g11, 0, ints .u64 r49⟩, ⟨g12, 0, ints .u64 r50⟩, ⟨g13, 0, ints .u64 r54⟩, ⟨g29, 0, ints .u64 r27⟩, ⟨g30, 0, ints .u64 r28⟩, ⟨g33, 0, ints .u64 r31⟩, ⟨g34, 0, ints .u64 r32⟩, ⟨g36, 0, ints .u64 r35⟩, ⟨g41, 0, ints .u64 r38⟩, ⟨g42, 0, ints .u64 r40⟩]) (List.Sublist.refl _)) (Option.some.inj h).symm
  · replace h := br_f hb h
    refine wskip rfl ?_
    exact hQ0 _ _ r50 r54 r45 r49 lr500 lr540 lr450 lr490 s2_e s4_e s5_e s6_e s7_e s8_e s9_e s10_e (hp.drop (L' := [⟨g1, 0, ints .u8 x4⟩, ⟨g2, 0, ints .u8 (a1.set 31 (bits .and .u8 (a1.getD 31 0) 127))⟩, ⟨g3, 0, ints .u8 (List.replicate 32 (0 : Int))⟩, ⟨g6, 0, ints .u64 r5⟩, ⟨g10, 0, ints .u64 r50⟩, ⟨g11, 0, ints .u64 r54⟩, ⟨g12, 0, ints .u64 r45⟩, ⟨g13, 0, ints .u64 r49⟩, ⟨g29, 0, ints .u64 r27⟩, ⟨g30, 0, ints .u64 r28⟩, ⟨g33, 0, ints .u64 r31⟩, ⟨g34, 0, ints .u64 r32⟩, ⟨g36, 0, ints .u64 r35⟩, ⟨g41, 0, ints .u64 r38⟩, ⟨g42, 0, ints .u64 r40⟩]) (List.Sublist.refl _)) (Option.some.inj h).symm
set_option maxHeartbeats 4000000 in
theorem postilionref03_Mul.p2_ok {w0 : World} {Ws : List Wr} {Q : Exit → Env → World → Prop} (k : Nat) (g1 g10 g11 g12 g13 g2 g3 g6 : Nat) (y18 : Int) (x4 : List Int) (a1 : List Int) (r5 : List Int) (y14 : List Int) (y15 : List Int) (y16 : List Int) (y17 : List Int) (ly14 : y14.length = 4) (ly15 : y15.length = 4) (ly16 : y16.length = 4) (ly17 : y17.length = 4) (la1 : a1.length = 32) (lx4 : x4.length = 32) (lr50 : r5.length = 4) {r : List Int × List Int × List Int × List Int} (hQ0 : ∀ (e' : Env) (w' : World) (z0 : List Int) (z1 : List Int) (z2 : List Int) (z3 : List Int), z0.length = 4 → z1.length = 4 → z2.length = 4 → z3.length = 4 → e' 2 = .pointer (some ⟨g1, 0, none⟩) → e' 4 = .pointer (some ⟨g3, 0, none⟩) → e' 5 = .pointer (some ⟨g6, 0, none⟩) → e' 6 = .pointer (some ⟨g10, 0, none⟩) → e' 7 = .pointer (some ⟨g11, 0, none⟩) → e' 8 = .pointer (some ⟨g12, 0, none⟩) → e' 9 = .pointer (some ⟨g13, 0, none⟩) → e' 10 = .int .i64 y18 → Hp w0 Ws w' [⟨g1, 0, ints .u8 x4⟩, ⟨g2, 0, ints .u8 (a1.set 31 (bits .and .u8 (a1.getD 31 0) 127))⟩, ⟨g3, 0, ints .u8 (List.replicate 32 (0 : Int))⟩, ⟨g6, 0, ints .u64 r5⟩, ⟨g10, 0, ints .u64 z0⟩, ⟨g11, 0, ints .u64 z1⟩, ⟨g12, 0, ints .u64 z2⟩, ⟨g13, 0, ints .u64 z3⟩] [] → r = (z0, z1, z2, z3) → Q .normal e' w') (e : Env) (w : World) (s2_e : e 2 = .pointer (some ⟨g1, 0, none⟩)) (s4_e : e 4 = .pointer (some ⟨g3, 0, none⟩)) (s5_e : e 5 = .pointer (some ⟨g6, 0, none⟩)) (s6_e : e 6 = .pointer (some ⟨g10, 0, none⟩)) (s7_e : e 7 = .pointer (some ⟨g11, 0, none⟩)) (s8_e : e 8 = .pointer (some ⟨g12, 0, none⟩)) (s9_e : e 9 = .pointer (some ⟨g13, 0, none⟩)) (s10_e : e 10 = .int .i64 y18) (hp : Hp w0 Ws w [⟨g1, 0, ints .u8 x4⟩, ⟨g2, 0, ints .u8 (a1.set 31 (bits .and .u8 (a1.getD 31 0) 127))⟩, ⟨g3, 0, ints .u8 (List.replicate 32 (0 : Int))⟩, ⟨g6, 0, ints .u64 r5⟩, ⟨g10, 0, ints .u64 y14⟩, ⟨g11, 0, ints .u64 y15⟩, ⟨g12, 0, ints .u64 y16⟩, ⟨g13, 0, ints .u64 y17⟩] []) (h : postilionref03_Mul.p2 k y18 x4 r5 y14 y15 y16 y17 = some r) : Wp Try.prog Try.f15.ntmps (at_ (fbody Try.f15) [1, 1, 1, 1, 1, 1, 0, 1, 0, 0, 1, 0]) Q e w := by
  unfold postilionref03_Mul.p2 at h
  refine wblockP (p0 := [1, 1, 1, 1, 1, 1, 0, 1, 0, 0, 1, 0, 0]) 1 rfl rfl ?_
  refine wseqP (p0 := [1, 1, 1, 1, 1, 1, 0, 1, 0, 0, 1, 0, 0, 0]) (p1 := [1, 1, 1, 1, 1, 1, 0, 1, 0, 0, 1, 0, 0, 1]) rfl rfl rfl ?_
  refine wregionT postilionref03_Mul.o9 (.tp 0 (.tp 1 (.tp 2 (.tk 3 (.tp 4 (.tp 5 (.tp 6 (.tp 7 (.tp 8 (.done)))))))))) [] rfl rfl (by kernel_rfl) (by kernel_rfl) ?_
  refine k_move (v := .int .i64 y18) rfl s10_e ?_
  refine k_quo (a := y18) (b := 8) rfl rfl rfl (by decide) ?_
  obtain ⟨c19, h⟩ := chk_e h
  refine k_indexA (n := 32) (s := 1) (j := (IntKind.i64.wrap (Int.tdiv y18 8))) rfl Try.underlying22 (by kernel_rfl) s2_e rfl c19 ?_
  refine k_load (j := ((IntKind.i64.wrap (Int.tdiv y18 8)) : Int).toNat) (v := .int .u8 (x4.getD ((IntKind.i64.wrap (Int.tdiv y18 8)) : Int).toNat 0)) rfl (by kernel_rfl) rfl (hp.get (j := 0) rfl) rfl (show 0 + ((IntKind.i64.wrap (Int.tdiv y18 8)) : Int).toNat * 1 = 0 + ((IntKind.i64.wrap (Int.tdiv y18 8)) : Int).toNat by omega) (ints_get (idx_lt c19 lx4)) ?_
  refine k_move (v := .int .i64 y18) rfl s10_e ?_
  refine k_rem (a := y18) (b := 8) rfl rfl rfl (by decide) ?_
  obtain ⟨c20, h⟩ := chk_e h
  refine k_shr (a := (x4.getD ((IntKind.i64.wrap (Int.tdiv y18 8)) : Int).toNat 0)) (b := (Int.tmod y18 8)) rfl rfl rfl c20 ?_
  refine k_bin (X := .int .u8 (Int.fdiv (x4.getD ((IntKind.i64.wrap (Int.tdiv y18 8)) : Int).toNat 0) (2 ^ (min ((Int.tmod y18 8) : Int).toNat (IntKind.u8).bits)))) (Y := .int .u8 1) rfl rfl rfl rfl ?_
  refine k_assign (v := .int .u8 (bits .and .u8 (Int.fdiv (x4.getD ((IntKind.i64.wrap (Int.tdiv y18 8)) : Int).toNat 0) (2 ^ (min ((Int.tmod y18 8) : Int).toNat (IntKind.u8).bits))) 1)) rfl rfl ?_
  refine k_end ?_; intro e309 qe309
  have s2_e309 : e309 2 = .pointer (some ⟨g1, 0, none⟩) := (congrFun qe309 2).trans s2_e
  have s4_e309 : e309 4 = .pointer (some ⟨g3, 0, none⟩) := (congrFun qe309 4).trans s4_e
  have s5_e309 : e309 5 = .pointer (some ⟨g6, 0, none⟩) := (congrFun qe309 5).trans s5_e
  have s6_e309 : e309 6 = .pointer (some ⟨g10, 0, none⟩) := (congrFun qe309 6).trans s6_e
  have s7_e309 : e309 7 = .pointer (some ⟨g11, 0, none⟩) := (congrFun qe309 7).trans s7_e
  have s8_e309 : e309 8 = .pointer (some ⟨g12, 0, none⟩) := (congrFun qe309 8).trans s8_e
  have s9_e309 : e309 9 = .pointer (some ⟨g13, 0, none⟩) := (congrFun qe309 9).trans s9_e
  have s10_e309 : e309 10 = .int .i64 y18 := (congrFun qe309 10).trans s10_e
  obtain ⟨x21, qx21, h⟩ := lt_e h
  have s11_e309 : e309 11 = .int .u8 x21 := (congrFun qe309 11).trans (congrArg (Value.int .u8) qx21.symm)
  clear qe309
  refine wseqP (p0 := [1, 1, 1, 1, 1, 1, 0, 1, 0, 0, 1, 0, 0, 1, 0]) (p1 := [1, 1, 1, 1, 1, 1, 0, 1, 0, 0, 1, 0, 0, 1, 1]) rfl rfl rfl ?_
  refine wseqP (p0 := [1, 1, 1, 1, 1, 1, 0, 1, 0, 0, 1, 0, 0, 1, 0, 0]) (p1 := [1, 1, 1, 1, 1, 1, 0, 1, 0, 0, 1, 0, 0, 1, 0, 1]) rfl rfl rfl ?_
  refine wregionT postilionref03_Mul.o10 (.tp 0 (.tp 1 (.done))) [] rfl rfl (by kernel_rfl) (by kernel_rfl) ?_
  refine k_move (v := .int .u8 x21) rfl s11_e309 ?_
  refine k_bin (X := .int .u8 x21) (Y := .int .u8 1) rfl rfl rfl rfl ?_
  refine k_end ?_; intro e310 qe310
  have s2_e310 : e310 2 = .pointer (some ⟨g1, 0, none⟩) := (congrFun qe310 2).trans s2_e309
  have s4_e310 : e310 4 = .pointer (some ⟨g3, 0, none⟩) := (congrFun qe310 4).trans s4_e309
  have s5_e310 : e310 5 = .pointer (some ⟨g6, 0, none⟩) := (congrFun qe310 5).trans s5_e309
  have s6_e310 : e310 6 = .pointer (some ⟨g10, 0, none⟩) := (congrFun qe310 6).trans s6_e309
  have s7_e310 : e310 7 = .pointer (some ⟨g11, 0, none⟩) := (congrFun qe310 7).trans s7_e309
  have s8_e310 : e310 8 = .pointer (some ⟨g12, 0, none⟩) := (congrFun qe310 8).trans s8_e309
  have s9_e310 : e310 9 = .pointer (some ⟨g13, 0, none⟩) := (congrFun qe310 9).trans s9_e309
  have s10_e310 : e310 10 = .int .i64 y18 := (congrFun qe310 10).trans s10_e309
  have s11_e310 : e310 11 = .int .u8 x21 := (congrFun qe310 11).trans s11_e309
  have s51_e310 : e310 51 = .bool (x21 == 1) := congrFun qe310 51
  clear qe310
  obtain ⟨r22, qr22, h⟩ := bd_e h
  refine postilionref03_Mul.p3_ok g1 g10 g11 g12 g13 g2 g3 g6 y18 x21 x4 a1 r5 y14 y15 y16 y17 ly14 ly15 ly16 ly17 la1 lx4 lr50 ?hq0 e310 _ s2_e310 s4_e310 s5_e310 s6_e310 s7_e310 s8_e310 s9_e310 s10_e310 s11_e310 s51_e310 hp qr22
  case hq0 =>
    intro e312 w m23 m24 m25 m26 lm23 lm24 lm25 lm26 s2_e312 s4_e312 s5_e312 s6_e312 s7_e312 s8_e312 s9_e312 s10_e312 s11_e312 hp qq
    rw [qq] at h; clear qq
    refine wseqP (p0 := [1, 1, 1, 1, 1, 1, 0, 1, 0, 0, 1, 0, 0, 1, 1, 0]) (p1 := [1, 1, 1, 1, 1, 1, 0, 1, 0, 0, 1, 0, 0, 1, 1, 1]) rfl rfl rfl ?_
    obtain ⟨r27, qr27, h⟩ := bd_e h
    obtain ⟨r28, qr28, h⟩ := bd_e h
    refine wcut (fun e313 w2 => ∃ g29 g30 : Nat, ((((r27.length = 4 ∧ r28.length = 4) ∧ (e313 2 = .pointer (some ⟨g1, 0, none⟩) ∧ e313 4 = .pointer (some ⟨g3, 0, none⟩))) ∧ ((e313 5 = .pointer (some ⟨g6, 0, none⟩) ∧ e313 6 = .pointer (some ⟨g10, 0, none⟩)) ∧ e313 7 = .pointer (some ⟨g11, 0, none⟩))) ∧ (((e313 8 = .pointer (some ⟨g12, 0, none⟩) ∧ e313 9 = .pointer (some ⟨g13, 0, none⟩)) ∧ e313 10 = .int .i64 y18) ∧ ((e313 11 = .int .u8 x21 ∧ e313 12 = .pointer (some ⟨g29, 0, none⟩)) ∧ e313 13 = .pointer (some ⟨g30, 0, none⟩)))) ∧ Hp w0 Ws w2 [⟨g1, 0, ints .u8 x4⟩, ⟨g2, 0, ints .u8 (a1.set 31 (bits .and .u8 (a1.getD 31 0) 127))⟩, ⟨g3, 0, ints .u8 (List.replicate 32 (0 : Int))⟩, ⟨g6, 0, ints .u64 r5⟩, ⟨g10, 0, ints .u64 m23⟩, ⟨g11, 0, ints .u64 m24⟩, ⟨g12, 0, ints .u64 m25⟩, ⟨g13, 0, ints .u64 m26⟩, ⟨g29, 0, ints .u64 r27⟩, ⟨g30, 0, ints .u64 r28⟩] []) ?_ ?_
    rotate_left
    · refine wregionM postilionref03_Mul.o12 (.tk 0 (.tk 1 (.rest 3 8))) [8, 9] [(0, 0, 0), (0, 0, 0), (3, 1023, 1023), (0, 1023, 1023), (0, 1023, 1023), (28, 1023, 1023), (0, 1023, 1023), (0, 1023, 1023), (231, 1023, 1023), (511, 1023, 1023)] rfl rfl (by kernel_rfl) (by kernel_rfl) (Nat.le_of_ble_eq_true (by kernel_rfl)) (by kernel_rfl) (by kernel_rfl) (by kernel_rfl) ?_
      have hp := hp.drew
      refine k_loadA (n := 4) (xs := ints .u64 m23) 0 rfl (by kernel_rfl) (by kernel_rfl) s6_e312 (hp.get (j := 4) rfl) rfl rfl ((ints_length _ _).trans lm23) (fun m v hm => by rw [Nat.zero_add]; exact hm) ?_
      refine k_loadA (n := 4) (xs := ints .u64 m24) 0 rfl (by kernel_rfl) (by kernel_rfl) s7_e312 (hp.get (j := 5) rfl) rfl rfl ((ints_length _ _).trans lm24) (fun m v hm => by rw [Nat.zero_add]; exact hm) ?_
      refine k_rest [2, 3, 4, 5, 6, 7, 8, 9] (fun L e w => ∃ g29 g30 : Nat, ∃ c_g29_0 c_g30_1 : List Int, (((((L 2 = true → r27.length = 4) ∧ (L 5 = true → r28.length = 4)) ∧ (((((e 2 = .pointer (some ⟨g1, 0, none⟩) ∧ e 4 = .pointer (some ⟨g3, 0, none⟩)) ∧ e 5 = .pointer (some ⟨g6, 0, none⟩)) ∧ ((e 6 = .pointer (some ⟨g10, 0, none⟩) ∧ e 7 = .pointer (some ⟨g11, 0, none⟩)) ∧ e 8 = .pointer (some ⟨g12, 0, none⟩))) ∧ (((e 9 = .pointer (some ⟨g13, 0, none⟩) ∧ e 10 = .int .i64 y18) ∧ e 11 = .int .u8 x21) ∧ (e 56 = .agg (ints .u64 m23).toArray ∧ e 57 = .agg (ints .u64 m24).toArray))) ∧ (L 2 = true → e 58 = .agg (ints .u64 r27).toArray))) ∧ (((L 3 = true → e 59 = .agg (ints .u64 m23).toArray) ∧ (L 4 = true → e 60 = .agg (ints .u64 m24).toArray)) ∧ ((L 5 = true → e 61 = .agg (ints .u64 r28).toArray) ∧ (L 6 = true → e 12 = .pointer (some ⟨g29, 0, none⟩))))) ∧ ((((L 7 = true → e 13 = .pointer (some ⟨g30, 0, none⟩)) ∧ (L 6 = false → c_g29_0 = ([] : List Int))) ∧ ((L 8 = false → L 6 = true → c_g29_0 = (List.replicate 4 (0 : Int))) ∧ (L 8 = true → c_g29_0 = r27))) ∧ (((L 7 = false → c_g30_1 = ([] : List Int)) ∧ (L 9 = false → L 7 = true → c_g30_1 = (List.replicate 4 (0 : Int)))) ∧ (L 9 = true → c_g30_1 = r28)))) ∧ Hp w0 Ws w [⟨g1, 0, ints .u8 x4⟩, ⟨g2, 0, ints .u8 (a1.set 31 (bits .and .u8 (a1.getD 31 0) 127))⟩, ⟨g3, 0, ints .u8 (List.replicate 32 (0 : Int))⟩, ⟨g6, 0, ints .u64 r5⟩, ⟨g10, 0, ints .u64 m23⟩, ⟨g11, 0, ints .u64 m24⟩, ⟨g12, 0, ints .u64 m25⟩, ⟨g13, 0, ints .u64 m26⟩, ⟨g29, 0, ints .u64 c_g29_0⟩, ⟨g30, 0, ints .u64 c_g30_1⟩] []) (by kernel_rfl) (by kernel_rfl) ?_ ?_ ?_
      have hp := hp.free1 0 0
      have hp := hp.free1 0 0
      · exact ⟨0, 0, ([] : List Int), ([] : List Int), ⟨⟨⟨⟨(fun h => absurd h (by decide)), (fun h => absurd h (by decide))⟩, ⟨⟨⟨⟨⟨s2_e312, s4_e312⟩, s5_e312⟩, ⟨⟨s6_e312, s7_e312⟩, s8_e312⟩⟩, ⟨⟨⟨s9_e312, s10_e312⟩, s11_e312⟩, ⟨rfl, rfl⟩⟩⟩, (fun h => absurd h (by decide))⟩⟩, ⟨⟨(fun h => absurd h (by decide)), (fun h => absurd h (by decide))⟩, ⟨(fun h => absurd h (by decide)), (fun h => absurd h (by decide))⟩⟩⟩, ⟨⟨⟨(fun h => absurd h (by decide)), (fun _ => rfl)⟩, ⟨(fun _ h => absurd h (by decide)), (fun h => absurd h (by decide))⟩⟩, ⟨⟨(fun _ => rfl), (fun _ h => absurd h (by decide))⟩, (fun h => absurd h (by decide))⟩⟩⟩, hp⟩
      · rintro L e w hall ⟨g29, g30, c_g29_0, c_g30_1, hF, hp⟩
        have qc_g29_0 := hF.2.1.2.2 (hall 8 rfl)
        rw [qc_g29_0] at hp
        have qc_g30_1 := hF.2.2.2 (hall 9 rfl)
        rw [qc_g30_1] at hp
        exact onlyN_i ⟨g29, g30, ⟨⟨⟨⟨(hF.1.1.1.1 (hall 2 rfl)), (hF.1.1.1.2 (hall 5 rfl))⟩, ⟨hF.1.1.2.1.1.1.1.1, hF.1.1.2.1.1.1.1.2⟩⟩, ⟨⟨hF.1.1.2.1.1.1.2, hF.1.1.2.1.1.2.1.1⟩, hF.1.1.2.1.1.2.1.2⟩⟩, ⟨⟨⟨hF.1.1.2.1.1.2.2, hF.1.1.2.1.2.1.1.1⟩, hF.1.1.2.1.2.1.1.2⟩, ⟨⟨hF.1.1.2.1.2.1.2, (hF.1.2.2.2 (hall 6 rfl))⟩, (hF.2.1.1.1 (hall 7 rfl))⟩⟩⟩, hp⟩
      refine allU_cons ?_ ?_
      · rintro L e w hLi hb hcl ⟨g29, g30, c_g29_0, c_g30_1, hF, hp⟩
        refine k_call [.agg (ints .u64 m23).toArray, .agg (ints .u64 m24).toArray] rfl (by kernel_rfl) (args2 hF.1.1.2.1.2.2.1 hF.1.1.2.1.2.2.2) (postilionref04_Plus_ok k m23 m24 lm23 lm24 _ (hp.toR (fun _ h => by cases h)) qr27) ?_
        rintro _ w' ⟨_, rfl, rfl, lr270, hpc⟩
        refine ⟨_, rfl, .inr (.of_below hpc.chg.to_below), ?_⟩; have hp := hp.below hpc.chg.to_below; clear hpc
        exact k_done ⟨g29, g30, c_g29_0, c_g30_1, ⟨⟨⟨⟨(fun _ => lr270), hF.1.1.1.2⟩, ⟨hF.1.1.2.1, (fun _ => rfl)⟩⟩, hF.1.2⟩, hF.2⟩, hp⟩
      refine allU_cons ?_ ?_
      · rintro L e w hLi hb hcl ⟨g29, g30, c_g29_0, c_g30_1, hF, hp⟩
        refine tk_ef ?_
        refine k_loadA (n := 4) (xs := ints .u64 m23) 0 rfl (by kernel_rfl) (by kernel_rfl) hF.1.1.2.1.1.2.1.1 (hp.get (j := 4) rfl) rfl rfl ((ints_length _ _).trans lm23) (fun m v hm => by rw [Nat.zero_add]; exact hm) ?_
        exact k_done ⟨g29, g30, c_g29_0, c_g30_1, ⟨⟨hF.1.1, ⟨⟨(fun _ => rfl), hF.1.2.1.2⟩, hF.1.2.2⟩⟩, hF.2⟩, hp⟩
      refine allU_cons ?_ ?_
      · rintro L e w hLi hb hcl ⟨g29, g30, c_g29_0, c_g30_1, hF, hp⟩
        refine tk_ef ?_
        refine k_loadA (n := 4) (xs := ints .u64 m24) 0 rfl (by kernel_rfl) (by kernel_rfl) hF.1.1.2.1.1.2.1.2 (hp.get (j := 5) rfl) rfl rfl ((ints_length _ _).trans lm24) (fun m v hm => by rw [Nat.zero_add]; exact hm) ?_
        exact k_done ⟨g29, g30, c_g29_0, c_g30_1, ⟨⟨hF.1.1, ⟨⟨hF.1.2.1.1, (fun _ => rfl)⟩, hF.1.2.2⟩⟩, hF.2⟩, hp⟩
      refine allU_cons ?_ ?_
      · rintro L e w hLi hb hcl ⟨g29, g30, c_g29_0, c_g30_1, hF, hp⟩
        have hL3 := hb 3 (by kernel_rfl)
        have hL4 := hb 4 (by kernel_rfl)
        refine k_call [.agg (ints .u64 m23).toArray, .agg (ints .u64 m24).toArray] rfl (by kernel_rfl) (args2 (hF.1.2.1.1 hL3) (hF.1.2.1.2 hL4)) (postilionref04_Minus_ok k m23 m24 lm23 lm24 _ (hp.toR (fun _ h => by cases h)) qr28) ?_
        rintro _ w' ⟨_, rfl, rfl, lr280, hpc⟩
        refine ⟨_, rfl, .inr (.of_below hpc.chg.to_below), ?_⟩; have hp := hp.below hpc.chg.to_below; clear hpc
        exact k_done ⟨g29, g30, c_g29_0, c_g30_1, ⟨⟨⟨⟨hF.1.1.1.1, (fun _ => lr280)⟩, hF.1.1.2⟩, ⟨hF.1.2.1, ⟨(fun _ => rfl), hF.1.2.2.2⟩⟩⟩, hF.2⟩, hp⟩
      refine allU_cons ?_ ?_
      · rintro L e w hLi hb hcl ⟨g29, g30, c_g29_0, c_g30_1, hF, hp⟩
        have qc_g29_0 := hF.2.1.1.2 hLi
        rw [qc_g29_0] at hp
        refine k_allocAt 8 (ints .u64 (List.replicate 4 (0 : Int))) rfl (by kernel_rfl) hp ?_
        intro g29 w hbg29 hp
        exact k_done ⟨g29, g30, (List.replicate 4 (0 : Int)), c_g30_1, ⟨⟨hF.1.1, ⟨hF.1.2.1, ⟨hF.1.2.2.1, (fun _ => rfl)⟩⟩⟩, ⟨⟨⟨hF.2.1.1.1, (fun h => nomatch (show true = false from h))⟩, ⟨(fun _ _ => rfl), (fun h => absurd (hLi.symm.trans (hcl 8 6 (by kernel_rfl) h)) (by decide))⟩⟩, hF.2.2⟩⟩, hp⟩
      refine allU_cons ?_ ?_
      · rintro L e w hLi hb hcl ⟨g29, g30, c_g29_0, c_g30_1, hF, hp⟩
        have qc_g30_1 := hF.2.2.1.1 hLi
        rw [qc_g30_1] at hp
        refine k_allocAt 9 (ints .u64 (List.replicate 4 (0 : Int))) rfl (by kernel_rfl) hp ?_
        intro g30 w hbg30 hp
        exact k_done ⟨g29, g30, c_g29_0, (List.replicate 4 (0 : Int)), ⟨hF.1, ⟨⟨⟨(fun _ => rfl), hF.2.1.1.2⟩, hF.2.1.2⟩, ⟨⟨(fun h => nomatch (show true = false from h)), (fun _ _ => rfl)⟩, (fun h => absurd (hLi.symm.trans (hcl 9 7 (by kernel_rfl) h)) (by decide))⟩⟩⟩, hp⟩
      refine allU_cons ?_ ?_
      · rintro L e w hLi hb hcl ⟨g29, g30, c_g29_0, c_g30_1, hF, hp⟩
        have hL2 := hb 2 (by kernel_rfl)
        have hL6 := hb 6 (by kernel_rfl)
        have lr270 := hF.1.1.1.1 hL2
        have qc_g29_0 := hF.2.1.2.1 hLi hL6
        rw [qc_g29_0] at hp
        refine k_storeA (v := .agg (ints .u64 r27).toArray) 8 0 (r := ⟨g29, 0, ints .u64 (List.replicate 4 (0 : Int))⟩) (ints .u64 r27) (ints .u64 r27) rfl (n := 4) (by kernel_rfl) (hF.1.2.2.2 hL6) (hF.1.1.2.2 hL2) rfl ((ints_length _ _).trans lr270) (ints_one _ _) hp rfl rfl rfl (Nat.le_of_eq ((Nat.zero_add _).trans ((ints_length _ _).trans List.length_replicate).symm)) (setMany_all _ _ (((ints_length _ _).trans lr270).trans ((ints_length _ _).trans List.length_replicate).symm)) (by decide) ?_; intro w hp
        exact k_done ⟨g29, g30, r27, c_g30_1, ⟨hF.1, ⟨⟨⟨hF.2.1.1.1, (fun h => absurd (hL6.symm.trans h) (by decide))⟩, ⟨(fun h _ => nomatch (show true = false from h)), (fun _ => rfl)⟩⟩, hF.2.2⟩⟩, hp⟩
      refine allU_cons ?_ allU_nil
      · rintro L e w hLi hb hcl ⟨g29, g30, c_g29_0, c_g30_1, hF, hp⟩
        have hL5 := hb 5 (by kernel_rfl)
        have hL7 := hb 7 (by kernel_rfl)
        have lr280 := hF.1.1.1.2 hL5
        have qc_g30_1 := hF.2.2.1.2 hLi hL7
        rw [qc_g30_1] at hp
        refine k_storeA (v := .agg (ints .u64 r28).toArray) 9 0 (r := ⟨g30, 0, ints .u64 (List.replicate 4 (0 : Int))⟩) (ints .u64 r28) (ints .u64 r28) rfl (n := 4) (by kernel_rfl) (hF.2.1.1.1 hL7) (hF.1.2.2.1 hL5) rfl ((ints_length _ _).trans lr280) (ints_one _ _) hp rfl rfl rfl (Nat.le_of_eq ((Nat.zero_add _).trans ((ints_length _ _).trans List.length_replicate).symm)) (setMany_all _ _ (((ints_length _ _).trans lr280).trans ((ints_length _ _).trans List.length_replicate).symm)) (by decide) ?_; intro w hp
        exact k_done ⟨g29, g30, c_g29_0, r28, ⟨hF.1, ⟨hF.2.1, ⟨⟨(fun h => absurd (hL7.symm.trans h) (by decide)), (fun h _ => nomatch (show true = false from h))⟩, (fun _ => rfl)⟩⟩⟩, hp⟩
    rintro e313 w ⟨g29, g30, hF, hp⟩
    have lr270 := hF.1.1.1.1
    have lr280 := hF.1.1.1.2
    have s2_e313 := hF.1.1.2.1
    have s4_e313 := hF.1.1.2.2
    have s5_e313 := hF.1.2.1.1
    have s6_e313 := hF.1.2.1.2
    have s7_e313 := hF.1.2.2
    have s8_e313 := hF.2.1.1.1
    have s9_e313 := hF.2.1.1.2
    have s10_e313 := hF.2.1.2
    have s11_e313 := hF.2.2.1.1
    have s12_e313 := hF.2.2.1.2
    have s13_e313 := hF.2.2.2
    clear hF
    refine wseqP (p0 := [1, 1, 1, 1, 1, 1, 0, 1, 0, 0, 1, 0, 0, 1, 1, 1, 0]) (p1 := [1, 1, 1, 1, 1, 1, 0, 1, 0, 0, 1, 0, 0, 1, 1, 1, 1]) rfl rfl rfl ?_
    obtain ⟨r31, qr31, h⟩ := bd_e h
    obtain ⟨r32, qr32, h⟩ := bd_e h
    refine wcut (fun e314 w2 => ∃ g33 g34 : Nat, ((((r31.length = 4 ∧ r32.length = 4) ∧ (e314 2 = .pointer (some ⟨g1, 0, none⟩) ∧ e314 4 = .pointer (some ⟨g3, 0, none⟩))) ∧ ((e314 5 = .pointer (some ⟨g6, 0, none⟩) ∧ e314 6 = .pointer (some ⟨g10, 0, none⟩)) ∧ (e314 7 = .pointer (some ⟨g11, 0, none⟩) ∧ e314 8 = .pointer (some ⟨g12, 0, none⟩)))) ∧ (((e314 9 = .pointer (some ⟨g13, 0, none⟩) ∧ e314 10 = .int .i64 y18) ∧ (e314 11 = .int .u8 x21 ∧ e314 12 = .pointer (some ⟨g29, 0, none⟩))) ∧ ((e314 13 = .pointer (some ⟨g30, 0, none⟩) ∧ e314 14 = .pointer (some ⟨g33, 0, none⟩)) ∧ e314 15 = .pointer (some ⟨g34, 0, none⟩)))) ∧ Hp w0 Ws w2 [⟨g1, 0, ints .u8 x4⟩, ⟨g2, 0, ints .u8 (a1.set 31 (bits .and .u8 (a1.getD 31 0) 127))⟩, ⟨g3, 0, ints .u8 (List.replicate 32 (0 : Int))⟩, ⟨g6, 0, ints .u64 r5⟩, ⟨g10, 0, ints .u64 m23⟩, ⟨g11, 0, ints .u64 m24⟩, ⟨g12, 0, ints .u64 m25⟩, ⟨g13, 0, ints .u64 m26⟩, ⟨g29, 0, ints .u64 r27⟩, ⟨g30, 0, ints .u64 r28⟩, ⟨g33, 0, ints .u64 r31⟩, ⟨g34, 0, ints .u64 r32⟩] []) ?_ ?_
    rotate_left
    · refine wregionM postilionref03_Mul.o13 (.tk 0 (.tk 1 (.rest 3 8))) [8, 9] [(0, 0, 0), (0, 0, 0), (3, 1023, 1023), (0, 1023, 1023), (0, 1023, 1023), (28, 1023, 1023), (0, 1023, 1023), (0, 1023, 1023), (231, 1023, 1023), (511, 1023, 1023)] rfl rfl (by kernel_rfl) (by kernel_rfl) (Nat.le_of_ble_eq_true (by kernel_rfl)) (by kernel_rfl) (by kernel_rfl) (by kernel_rfl) ?_
      have hp := hp.drew
      refine k_loadA (n := 4) (xs := ints .u64 r27) 0 rfl (by kernel_rfl) (by kernel_rfl) s12_e313 (hp.get (j := 8) rfl) rfl rfl ((ints_length _ _).trans lr270) (fun m v hm => by rw [Nat.zero_add]; exact hm) ?_
      refine k_loadA (n := 4) (xs := ints .u64 r27) 0 rfl (by kernel_rfl) (by kernel_rfl) s12_e313 (hp.get (j := 8) rfl) rfl rfl ((ints_length _ _).trans lr270) (fun m v hm => by rw [Nat.zero_add]; exact hm) ?_
      refine k_rest [2, 3, 4, 5, 6, 7, 8, 9] (fun L e w => ∃ g33 g34 : Nat, ∃ c_g33_0 c_g34_1 : List Int, (((((L 2 = true → r31.length = 4) ∧ (L 5 = true → r32.length = 4)) ∧ (((((e 2 = .pointer (some ⟨g1, 0, none⟩) ∧ e 4 = .pointer (some ⟨g3, 0, none⟩)) ∧ (e 5 = .pointer (some ⟨g6, 0, none⟩) ∧ e 6 = .pointer (some ⟨g10, 0, none⟩))) ∧ ((e 7 = .pointer (some ⟨g11, 0, none⟩) ∧ e 8 = .pointer (some ⟨g12, 0, none⟩)) ∧ e 9 = .pointer (some ⟨g13, 0, none⟩))) ∧ (((e 10 = .int .i64 y18 ∧ e 11 = .int .u8 x21) ∧ e 12 = .pointer (some ⟨g29, 0, none⟩)) ∧ ((e 13 = .pointer (some ⟨g30, 0, none⟩) ∧ e 62 = .agg (ints .u64 r27).toArray) ∧ e 63 = .agg (ints .u64 r27).toArray))) ∧ (L 2 = true → e 64 = .agg (ints .u64 r31).toArray))) ∧ (((L 3 = true → e 65 = .agg (ints .u64 r28).toArray) ∧ (L 4 = true → e 66 = .agg (ints .u64 r28).toArray)) ∧ ((L 5 = true → e 67 = .agg (ints .u64 r32).toArray) ∧ (L 6 = true → e 14 = .pointer (some ⟨g33, 0, none⟩))))) ∧ ((((L 7 = true → e 15 = .pointer (some ⟨g34, 0, none⟩)) ∧ (L 6 = false → c_g33_0 = ([] : List Int))) ∧ ((L 8 = false → L 6 = true → c_g33_0 = (List.replicate 4 (0 : Int))) ∧ (L 8 = true → c_g33_0 = r31))) ∧ (((L 7 = false → c_g34_1 = ([] : List Int)) ∧ (L 9 = false → L 7 = true → c_g34_1 = (List.replicate 4 (0 : Int)))) ∧ (L 9 = true → c_g34_1 = r32)))) ∧ Hp w0 Ws w [⟨g1, 0, ints .u8 x4⟩, ⟨g2, 0, ints .u8 (a1.set 31 (bits .and .u8 (a1.getD 31 0) 127))⟩, ⟨g3, 0, ints .u8 (List.replicate 32 (0 : Int))⟩, ⟨g6, 0, ints .u64 r5⟩, ⟨g10, 0, ints .u64 m23⟩, ⟨g11, 0, ints .u64 m24⟩, ⟨g12, 0, ints .u64 m25⟩, ⟨g13, 0, ints .u64 m26⟩, ⟨g29, 0, ints .u64 r27⟩, ⟨g30, 0, ints .u64 r28⟩, ⟨g33, 0, ints .u64 c_g33_0⟩, ⟨g34, 0, ints .u64 c_g34_1⟩] []) (by kernel_rfl) (by kernel_rfl) ?_ ?_ ?_
      have hp := hp.free1 0 0
      have hp := hp.free1 0 0
      · exact ⟨0, 0, ([] : List Int), ([] : List Int), ⟨⟨⟨⟨(fun h => absurd h (by decide)), (fun h => absurd h (by decide))⟩, ⟨⟨⟨⟨⟨s2_e313, s4_e313⟩, ⟨s5_e313, s6_e313⟩⟩, ⟨⟨s7_e313, s8_e313⟩, s9_e313⟩⟩, ⟨⟨⟨s10_e313, s11_e313⟩, s12_e313⟩, ⟨⟨s13_e313, rfl⟩, rfl⟩⟩⟩, (fun h => absurd h (by decide))⟩⟩, ⟨⟨(fun h => absurd h (by decide)), (fun h => absurd h (by decide))⟩, ⟨(fun h => absurd h (by decide)), (fun h => absurd h (by decide))⟩⟩⟩, ⟨⟨⟨(fun h => absurd h (by decide)), (fun _ => rfl)⟩, ⟨(fun _ h => absurd h (by decide)), (fun h => absurd h (by decide))⟩⟩, ⟨⟨(fun _ => rfl), (fun _ h => absurd h (by decide))⟩, (fun h => absurd h (by decide))⟩⟩⟩, hp⟩
      · rintro L e w hall ⟨g33, g34, c_g33_0, c_g34_1, hF, hp⟩
        have qc_g33_0 := hF.2.1.2.2 (hall 8 rfl)
        rw [qc_g33_0] at hp
        have qc_g34_1 := hF.2.2.2 (hall 9 rfl)
        rw [qc_g34_1] at hp
        exact onlyN_i ⟨g33, g34, ⟨⟨⟨⟨(hF.1.1.1.1 (hall 2 rfl)), (hF.1.1.1.2 (hall 5 rfl))⟩, ⟨hF.1.1.2.1.1.1.1.1, hF.1.1.2.1.1.1.1.2⟩⟩, ⟨⟨hF.1.1.2.1.1.1.2.1, hF.1.1.2.1.1.1.2.2⟩, ⟨hF.1.1.2.1.1.2.1.1, hF.1.1.2.1.1.2.1.2⟩⟩⟩, ⟨⟨⟨hF.1.1.2.1.1.2.2, hF.1.1.2.1.2.1.1.1⟩, ⟨hF.1.1.2.1.2.1.1.2, hF.1.1.2.1.2.1.2⟩⟩, ⟨⟨hF.1.1.2.1.2.2.1.1, (hF.1.2.2.2 (hall 6 rfl))⟩, (hF.2.1.1.1 (hall 7 rfl))⟩⟩⟩, hp⟩
      refine allU_cons ?_ ?_
      · rintro L e w hLi hb hcl ⟨g33, g34, c_g33_0, c_g34_1, hF, hp⟩
        refine k_call [.agg (ints .u64 r27).toArray, .agg (ints .u64 r27).toArray] rfl (by kernel_rfl) (args2 hF.1.1.2.1.2.2.1.2 hF.1.1.2.1.2.2.2) (postilionref04_Times_ok k r27 r27 lr270 lr270 _ (hp.toR (fun _ h => by cases h)) qr31) ?_
        rintro _ w' ⟨_, rfl, rfl, lr310, hpc⟩
        refine ⟨_, rfl, .inr (.of_below hpc.chg.to_below), ?_⟩; have hp := hp.below hpc.chg.to_below; clear hpc
        exact k_done ⟨g33, g34, c_g33_0, c_g34_1, ⟨⟨⟨⟨(fun _ => lr310), hF.1.1.1.2⟩, ⟨hF.1.1.2.1, (fun _ => rfl)⟩⟩, hF.1.2⟩, hF.2⟩, hp⟩
      refine allU_cons ?_ ?_
      · rintro L e w hLi hb hcl ⟨g33, g34, c_g33_0, c_g34_1, hF, hp⟩
        refine tk_ef ?_
        refine k_loadA (n := 4) (xs := ints .u64 r28) 0 rfl (by kernel_rfl) (by kernel_rfl) hF.1.1.2.1.2.2.1.1 (hp.get (j := 9) rfl) rfl rfl ((ints_length _ _).trans lr280) (fun m v hm => by rw [Nat.zero_add]; exact hm) ?_
        exact k_done ⟨g33, g34, c_g33_0, c_g34_1, ⟨⟨hF.1.1, ⟨⟨(fun _ => rfl), hF.1.2.1.2⟩, hF.1.2.2⟩⟩, hF.2⟩, hp⟩
      refine allU_cons ?_ ?_
      · rintro L e w hLi hb hcl ⟨g33, g34, c_g33_0, c_g34_1, hF, hp⟩
        refine tk_ef ?_
        refine k_loadA (n := 4) (xs := ints .u64 r28) 0 rfl (by kernel_rfl) (by kernel_rfl) hF.1.1.2.1.2.2.1.1 (hp.get (j := 9) rfl) rfl rfl ((ints_length _ _).trans lr280) (fun m v hm => by rw [Nat.zero_add]; exact hm) ?_
        exact k_done ⟨g33, g34, c_g33_0, c_g34_1, ⟨⟨hF.1.1, ⟨⟨hF.1.2.1.1, (fun _ => rfl)⟩, hF.1.2.2⟩⟩, hF.2⟩, hp⟩
      refine allU_cons ?_ ?_
      · rintro L e w hLi hb hcl ⟨g33, g34, c_g33_0, c_g34_1, hF, hp⟩
        have hL3 := hb 3 (by kernel_rfl)
        have hL4 := hb 4 (by kernel_rfl)
        refine k_call [.agg (ints .u64 r28).toArray, .agg (ints .u64 r28).toArray] rfl (by kernel_rfl) (args2 (hF.1.2.1.1 hL3) (hF.1.2.1.2 hL4)) (postilionref04_Times_ok k r28 r28 lr280 lr280 _ (hp.toR (fun _ h => by cases h)) qr32) ?_
        rintro _ w' ⟨_, rfl, rfl, lr320, hpc⟩
        refine ⟨_, rfl, .inr (.of_below hpc.chg.to_below), ?_⟩; have hp := hp.below hpc.chg.to_below; clear hpc
        exact k_done ⟨g33, g34, c_g33_0, c_g34_1, ⟨⟨⟨⟨hF.1.1.1.1, (fun _ => lr320)⟩, hF.1.1.2⟩, ⟨hF.1.2.1, ⟨(fun _ => rfl), hF.1.2.2.2⟩⟩⟩, hF.2⟩, hp⟩
      refine allU_cons ?_ ?_
      · rintro L e w hLi hb hcl ⟨g33, g34, c_g33_0, c_g34_1, hF, hp⟩
        have qc_g33_0 := hF.2.1.1.2 hLi
        rw [qc_g33_0] at hp
        refine k_allocAt 10 (ints .u64 (List.replicate 4 (0 : Int))) rfl (by kernel_rfl) hp ?_
        intro g33 w hbg33 hp
        exact k_done ⟨g33, g34, (List.replicate 4 (0 : Int)), c_g34_1, ⟨⟨hF.1.1, ⟨hF.1.2.1, ⟨hF.1.2.2.1, (fun _ => rfl)⟩⟩⟩, ⟨⟨⟨hF.2.1.1.1, (fun h => nomatch (show true = false from h))⟩, ⟨(fun _ _ => rfl), (fun h => absurd (hLi.symm.trans (hcl 8 6 (by kernel_rfl) h)) (by decide))⟩⟩, hF.2.2⟩⟩, hp⟩
      refine allU_cons ?_ ?_
      · rintro L e w hLi hb hcl ⟨g33, g34, c_g33_0, c_g34_1, hF, hp⟩
        have qc_g34_1 := hF.2.2.1.1 hLi
        rw [qc_g34_1] at hp
        refine k_allocAt 11 (ints .u64 (List.replicate 4 (0 : Int))) rfl (by kernel_rfl) hp ?_
        intro g34 w hbg34 hp
        exact k_done ⟨g33, g34, c_g33_0, (List.replicate 4 (0 : Int)), ⟨hF.1, ⟨⟨⟨(fun _ => rfl), hF.2.1.1.2⟩, hF.2.1.2⟩, ⟨⟨(fun h => nomatch (show true = false from h)), (fun _ _ => rfl)⟩, (fun h => absurd (hLi.symm.trans (hcl 9 7 (by kernel_rfl) h)) (by decide))⟩⟩⟩, hp⟩
      refine allU_cons ?_ ?_
      · rintro L e w hLi hb hcl ⟨g33, g34, c_g33_0, c_g34_1, hF, hp⟩
        have hL2 := hb 2 (by kernel_rfl)
        have hL6 := hb 6 (by kernel_rfl)
        have lr310 := hF.1.1.1.1 hL2
        have qc_g33_0 := hF.2.1.2.1 hLi hL6
        rw [qc_g33_0] at hp
        refine k_storeA (v := .agg (ints .u64 r31).toArray) 10 0 (r := ⟨g33, 0, ints .u64 (List.replicate 4 (0 : Int))⟩) (ints .u64 r31) (ints .u64 r31) rfl (n := 4) (by kernel_rfl) (hF.1.2.2.2 hL6) (hF.1.1.2.2 hL2) rfl ((ints_length _ _).trans lr310) (ints_one _ _) hp rfl rfl rfl (Nat.le_of_eq ((Nat.zero_add _).trans ((ints_length _ _).trans List.length_replicate).symm)) (setMany_all _ _ (((ints_length _ _).trans lr310).trans ((ints_length _ _).trans List.length_replicate).symm)) (by decide) ?_; intro w hp
        exact k_done ⟨g33, g34, r31, c_g34_1, ⟨hF.1, ⟨⟨⟨hF.2.1.1.1, (fun h => absurd (hL6.symm.trans h) (by decide))⟩, ⟨(fun h _ => nomatch (show true = false from h)), (fun _ => rfl)⟩⟩, hF.2.2⟩⟩, hp⟩
      refine allU_cons ?_ allU_nil
      · rintro L e w hLi hb hcl ⟨g33, g34, c_g33_0, c_g34_1, hF, hp⟩
        have hL5 := hb 5 (by kernel_rfl)
        have hL7 := hb 7 (by kernel_rfl)
        have lr320 := hF.1.1.1.2 hL5
        have qc_g34_1 := hF.2.2.1.2 hLi hL7
        rw [qc_g34_1] at hp
        refine k_storeA (v := .agg (ints .u64 r32).toArray) 11 0 (r := ⟨g34, 0, ints .u64 (List.replicate 4 (0 : Int))⟩) (ints .u64 r32) (ints .u64 r32) rfl (n := 4) (by kernel_rfl) (hF.2.1.1.1 hL7) (hF.1.2.2.1 hL5) rfl ((ints_length _ _).trans lr320) (ints_one _ _) hp rfl rfl rfl (Nat.le_of_eq ((Nat.zero_add _).trans ((ints_length _ _).trans List.length_replicate).symm)) (setMany_all _ _ (((ints_length _ _).trans lr320).trans ((ints_length _ _).trans List.length_replicate).symm)) (by decide) ?_; intro w hp
        exact k_done ⟨g33, g34, c_g33_0, r32, ⟨hF.1, ⟨hF.2.1, ⟨⟨(fun h => absurd (hL7.symm.trans h) (by decide)), (fun h _ => nomatch (show true = false from h))⟩, (fun _ => rfl)⟩⟩⟩, hp⟩
    rintro e314 w ⟨g33, g34, hF, hp⟩
    have lr310 := hF.1.1.1.1
    have lr320 := hF.1.1.1.2
    have s2_e314 := hF.1.1.2.1
    have s4_e314 := hF.1.1.2.2
    have s5_e314 := hF.1.2.1.1
    have s6_e314 := hF.1.2.1.2
    have s7_e314 := hF.1.2.2.1
    have s8_e314 := hF.1.2.2.2
    have s9_e314 := hF.2.1.1.1
    have s10_e314 := hF.2.1.1.2
    have s11_e314 := hF.2.1.2.1
    have s12_e314 := hF.2.1.2.2
    have s13_e314 := hF.2.2.1.1
    have s14_e314 := hF.2.2.1.2
    have s15_e314 := hF.2.2.2
    clear hF
    refine wseqP (p0 := [1, 1, 1, 1, 1, 1, 0, 1, 0, 0, 1, 0, 0, 1, 1, 1, 1, 0]) (p1 := [1, 1, 1, 1, 1, 1, 0, 1, 0, 0, 1, 0, 0, 1, 1, 1, 1, 1]) rfl rfl rfl ?_
    refine wregionT postilionref03_Mul.o14 (.tk 0 (.tk 1 (.ef 2 (.ef 3 (.ef 4 (.done)))))) [4] rfl rfl (by kernel_rfl) (by kernel_rfl) ?_
    refine k_loadA (n := 4) (xs := ints .u64 r31) 0 rfl (by kernel_rfl) (by kernel_rfl) s14_e314 (hp.get (j := 10) rfl) rfl rfl ((ints_length _ _).trans lr310) (fun m v hm => by rw [Nat.zero_add]; exact hm) ?_
    refine k_loadA (n := 4) (xs := ints .u64 r32) 0 rfl (by kernel_rfl) (by kernel_rfl) s15_e314 (hp.get (j := 11) rfl) rfl rfl ((ints_length _ _).trans lr320) (fun m v hm => by rw [Nat.zero_add]; exact hm) ?_
    obtain ⟨r35, qr35, h⟩ := bd_e h
    refine k_call [.agg (ints .u64 r31).toArray, .agg (ints .u64 r32).toArray] rfl (by kernel_rfl) (args2 rfl rfl) (postilionref04_Minus_ok k r31 r32 lr310 lr320 _ (hp.toR (fun _ h => by cases h)) qr35) ?_
    rintro _ w' ⟨_, rfl, rfl, lr350, hpc⟩
    refine ⟨_, rfl, .inr (.of_below hpc.chg.to_below), ?_⟩; have hp := hp.below hpc.chg.to_below; clear hpc
    refine k_alloc (ints .u64 (List.replicate 4 (0 : Int))) rfl (by kernel_rfl) hp ?_
    intro g36 w hbg36 hp
    refine k_storeA (v := .agg (ints .u64 r35).toArray) 12 0 (r := ⟨g36, 0, ints .u64 (List.replicate 4 (0 : Int))⟩) (ints .u64 r35) (ints .u64 r35) rfl (n := 4) (by kernel_rfl) rfl rfl rfl ((ints_length _ _).trans lr350) (ints_one _ _) hp rfl rfl rfl (Nat.le_of_eq ((Nat.zero_add _).trans ((ints_length _ _).trans List.length_replicate).symm)) (setMany_all _ _ (((ints_length _ _).trans lr350).trans ((ints_length _ _).trans List.length_replicate).symm)) (by decide) ?_; intro w hp
    refine k_end ?_; intro e315 qe315
    have s2_e315 : e315 2 = .pointer (some ⟨g1, 0, none⟩) := (congrFun qe315 2).trans s2_e314
    have s4_e315 : e315 4 = .pointer (some ⟨g3, 0, none⟩) := (congrFun qe315 4).trans s4_e314
    have s5_e315 : e315 5 = .pointer (some ⟨g6, 0, none⟩) := (congrFun qe315 5).trans s5_e314
    have s6_e315 : e315 6 = .pointer (some ⟨g10, 0, none⟩) := (congrFun qe315 6).trans s6_e314
    have s7_e315 : e315 7 = .pointer (some ⟨g11, 0, none⟩) := (congrFun qe315 7).trans s7_e314
    have s8_e315 : e315 8 = .pointer (some ⟨g12, 0, none⟩) := (congrFun qe315 8).trans s8_e314
    have s9_e315 : e315 9 = .pointer (some ⟨g13, 0, none⟩) := (congrFun qe315 9).trans s9_e314
    have s10_e315 : e315 10 = .int .i64 y18 := (congrFun qe315 10).trans s10_e314
    have s11_e315 : e315 11 = .int .u8 x21 := (congrFun qe315 11).trans s11_e314
    have s12_e315 : e315 12 = .pointer (some ⟨g29, 0, none⟩) := (congrFun qe315 12).trans s12_e314
    have s13_e315 : e315 13 = .pointer (some ⟨g30, 0, none⟩) := (congrFun qe315 13).trans s13_e314
    have s14_e315 : e315 14 = .pointer (some ⟨g33, 0, none⟩) := (congrFun qe315 14).trans s14_e314
    have s15_e315 : e315 15 = .pointer (some ⟨g34, 0, none⟩) := (congrFun qe315 15).trans s15_e314
    have s16_e315 : e315 16 = .pointer (some ⟨g36, 0, none⟩) := congrFun qe315 16
    clear qe315
    refine wseqP (p0 := [1, 1, 1, 1, 1, 1, 0, 1, 0, 0, 1, 0, 0, 1, 1, 1, 1, 1, 0]) (p1 := [1, 1, 1, 1, 1, 1, 0, 1, 0, 0, 1, 0, 0, 1, 1, 1, 1, 1, 1]) rfl rfl rfl ?_
    obtain ⟨r37, qr37, h⟩ := bd_e h
    obtain ⟨r38, qr38, h⟩ := bd_e h
    obtain ⟨r39, qr39, h⟩ := bd_e h
    obtain ⟨r40, qr40, h⟩ := bd_e h
    refine wcut (fun e316 w2 => ∃ g41 g42 : Nat, ((((r38.length = 4 ∧ r40.length = 4) ∧ (e316 2 = .pointer (some ⟨g1, 0, none⟩) ∧ e316 4 = .pointer (some ⟨g3, 0, none⟩))) ∧ ((e316 5 = .pointer (some ⟨g6, 0, none⟩) ∧ e316 6 = .pointer (some ⟨g10, 0, none⟩)) ∧ (e316 7 = .pointer (some ⟨g11, 0, none⟩) ∧ e316 8 = .pointer (some ⟨g12, 0, none⟩)))) ∧ (((e316 9 = .pointer (some ⟨g13, 0, none⟩) ∧ e316 10 = .int .i64 y18) ∧ (e316 11 = .int .u8 x21 ∧ e316 14 = .pointer (some ⟨g33, 0, none⟩))) ∧ ((e316 15 = .pointer (some ⟨g34, 0, none⟩) ∧ e316 16 = .pointer (some ⟨g36, 0, none⟩)) ∧ (e316 17 = .pointer (some ⟨g41, 0, none⟩) ∧ e316 18 = .pointer (some ⟨g42, 0, none⟩))))) ∧ Hp w0 Ws w2 [⟨g1, 0, ints .u8 x4⟩, ⟨g2, 0, ints .u8 (a1.set 31 (bits .and .u8 (a1.getD 31 0) 127))⟩, ⟨g3, 0, ints .u8 (List.replicate 32 (0 : Int))⟩, ⟨g6, 0, ints .u64 r5⟩, ⟨g10, 0, ints .u64 m23⟩, ⟨g11, 0, ints .u64 m24⟩, ⟨g12, 0, ints .u64 m25⟩, ⟨g13, 0, ints .u64 m26⟩, ⟨g29, 0, ints .u64 r27⟩, ⟨g30, 0, ints .u64 r28⟩, ⟨g33, 0, ints .u64 r31⟩, ⟨g34, 0, ints .u64 r32⟩, ⟨g36, 0, ints .u64 r35⟩, ⟨g41, 0, ints .u64 r38⟩, ⟨g42, 0, ints .u64 r40⟩] []) ?_ ?_
    rotate_left
    · refine wregionM postilionref03_Mul.o15 (.tk 0 (.tk 1 (.tk 2 (.rest 7 11)))) [12, 13] [(0, 0, 0), (0, 0, 0), (0, 0, 0), (6, 16383, 16383), (9, 16383, 16383), (0, 16383, 16383), (0, 16383, 16383), (0, 16383, 16383), (208, 16383, 16383), (288, 16383, 16383), (0, 16383, 16383), (0, 16383, 16383), (3615, 16383, 16383), (8191, 16383, 16383)] rfl rfl (by kernel_rfl) (by kernel_rfl) (Nat.le_of_ble_eq_true (by kernel_rfl)) (by kernel_rfl) (by kernel_rfl) (by kernel_rfl) ?_
      have hp := hp.drew
      refine k_loadA (n := 4) (xs := ints .u64 r28) 0 rfl (by kernel_rfl) (by kernel_rfl) s13_e315 (hp.get (j := 9) rfl) rfl rfl ((ints_length _ _).trans lr280) (fun m v hm => by rw [Nat.zero_add]; exact hm) ?_
      refine k_loadA (n := 4) (xs := ints .u64 m25) 0 rfl (by kernel_rfl) (by kernel_rfl) s8_e315 (hp.get (j := 6) rfl) rfl rfl ((ints_length _ _).trans lm25) (fun m v hm => by rw [Nat.zero_add]; exact hm) ?_
      refine k_loadA (n := 4) (xs := ints .u64 m26) 0 rfl (by kernel_rfl) (by kernel_rfl) s9_e315 (hp.get (j := 7) rfl) rfl rfl ((ints_length _ _).trans lm26) (fun m v hm => by rw [Nat.zero_add]; exact hm) ?_
      refine k_rest [3, 4, 5, 6, 7, 8, 9, 10, 11, 12, 13] (fun L e w => ∃ g41 g42 : Nat, ∃ c_g41_0 c_g42_1 : List Int, ((((((L 3 = true → r37.length = 4) ∧ (L 4 = true → r38.length = 4)) ∧ (L 8 = true → r39.length = 4)) ∧ ((L 9 = true → r40.length = 4) ∧ ((((e 2 = .pointer (some ⟨g1, 0, none⟩) ∧ e 4 = .pointer (some ⟨g3, 0, none⟩)) ∧ (e 5 = .pointer (some ⟨g6, 0, none⟩) ∧ e 6 = .pointer (some ⟨g10, 0, none⟩))) ∧ ((e 7 = .pointer (some ⟨g11, 0, none⟩) ∧ e 8 = .pointer (some ⟨g12, 0, none⟩)) ∧ (e 9 = .pointer (some ⟨g13, 0, none⟩) ∧ e 10 = .int .i64 y18))) ∧ (((e 11 = .int .u8 x21 ∧ e 12 = .pointer (some ⟨g29, 0, none⟩)) ∧ (e 14 = .pointer (some ⟨g33, 0, none⟩) ∧ e 15 = .pointer (some ⟨g34, 0, none⟩))) ∧ ((e 16 = .pointer (some ⟨g36, 0, none⟩) ∧ e 71 = .agg (ints .u64 r28).toArray) ∧ (e 72 = .agg (ints .u64 m25).toArray ∧ e 73 = .agg (ints .u64 m26).toArray)))))) ∧ ((((L 3 = true → e 74 = .agg (ints .u64 r37).toArray) ∧ (L 4 = true → e 75 = .agg (ints .u64 r38).toArray)) ∧ (L 5 = true → e 76 = .agg (ints .u64 r27).toArray)) ∧ ((L 6 = true → e 77 = .agg (ints .u64 m25).toArray) ∧ (L 7 = true → e 78 = .agg (ints .u64 m26).toArray)))) ∧ (((((L 8 = true → e 79 = .agg (ints .u64 r39).toArray) ∧ (L 9 = true → e 80 = .agg (ints .u64 r40).toArray)) ∧ (L 10 = true → e 17 = .pointer (some ⟨g41, 0, none⟩))) ∧ ((L 11 = true → e 18 = .pointer (some ⟨g42, 0, none⟩)) ∧ (L 10 = false → c_g41_0 = ([] : List Int)))) ∧ ((((L 12 = false → L 10 = true → c_g41_0 = (List.replicate 4 (0 : Int))) ∧ (L 12 = true → c_g41_0 = r38)) ∧ (L 11 = false → c_g42_1 = ([] : List Int))) ∧ ((L 13 = false → L 11 = true → c_g42_1 = (List.replicate 4 (0 : Int))) ∧ (L 13 = true → c_g42_1 = r40))))) ∧ Hp w0 Ws w [⟨g1, 0, ints .u8 x4⟩, ⟨g2, 0, ints .u8 (a1.set 31 (bits .and .u8 (a1.getD 31 0) 127))⟩, ⟨g3, 0, ints .u8 (List.replicate 32 (0 : Int))⟩, ⟨g6, 0, ints .u64 r5⟩, ⟨g10, 0, ints .u64 m23⟩, ⟨g11, 0, ints .u64 m24⟩, ⟨g12, 0, ints .u64 m25⟩, ⟨g13, 0, ints .u64 m26⟩, ⟨g29, 0, ints .u64 r27⟩, ⟨g30, 0, ints .u64 r28⟩, ⟨g33, 0, ints .u64 r31⟩, ⟨g34, 0, ints .u64 r32⟩, ⟨g36, 0, ints .u64 r35⟩, ⟨g41, 0, ints .u64 c_g41_0⟩, ⟨g42, 0, ints .u64 c_g42_1⟩] []) (by kernel_rfl) (by kernel_rfl) ?_ ?_ ?_
      have hp := hp.free1 0 0
      have hp := hp.free1 0 0
      · exact ⟨0, 0, ([] : List Int), ([] : List Int), ⟨⟨⟨⟨⟨(fun h => absurd h (by decide)), (fun h => absurd h (by decide))⟩, (fun h => absurd h (by decide))⟩, ⟨(fun h => absurd h (by decide)), ⟨⟨⟨⟨s2_e315, s4_e315⟩, ⟨s5_e315, s6_e315⟩⟩, ⟨⟨s7_e315, s8_e315⟩, ⟨s9_e315, s10_e315⟩⟩⟩, ⟨⟨⟨s11_e315, s12_e315⟩, ⟨s14_e315, s15_e315⟩⟩, ⟨⟨s16_e315, rfl⟩, ⟨rfl, rfl⟩⟩⟩⟩⟩⟩, ⟨⟨⟨(fun h => absurd h (by decide)), (fun h => absurd h (by decide))⟩, (fun h => absurd h (by decide))⟩, ⟨(fun h => absurd h (by decide)), (fun h => absurd h (by decide))⟩⟩⟩, ⟨⟨⟨⟨(fun h => absurd h (by decide)), (fun h => absurd h (by decide))⟩, (fun h => absurd h (by decide))⟩, ⟨(fun h => absurd h (by decide)), (fun _ => rfl)⟩⟩, ⟨⟨⟨(fun _ h => absurd h (by decide)), (fun h => absurd h (by decide))⟩, (fun _ => rfl)⟩, ⟨(fun _ h => absurd h (by decide)), (fun h => absurd h (by decide))⟩⟩⟩⟩, hp⟩
      · rintro L e w hall ⟨g41, g42, c_g41_0, c_g42_1, hF, hp⟩
        have qc_g41_0 := hF.2.2.1.1.2 (hall 12 rfl)
        rw [qc_g41_0] at hp
        have qc_g42_1 := hF.2.2.2.2 (hall 13 rfl)
        rw [qc_g42_1] at hp
        exact onlyN_i ⟨g41, g42, ⟨⟨⟨⟨(hF.1.1.1.1.2 (hall 4 rfl)), (hF.1.1.2.1 (hall 9 rfl))⟩, ⟨hF.1.1.2.2.1.1.1.1, hF.1.1.2.2.1.1.1.2⟩⟩, ⟨⟨hF.1.1.2.2.1.1.2.1, hF.1.1.2.2.1.1.2.2⟩, ⟨hF.1.1.2.2.1.2.1.1, hF.1.1.2.2.1.2.1.2⟩⟩⟩, ⟨⟨⟨hF.1.1.2.2.1.2.2.1, hF.1.1.2.2.1.2.2.2⟩, ⟨hF.1.1.2.2.2.1.1.1, hF.1.1.2.2.2.1.2.1⟩⟩, ⟨⟨hF.1.1.2.2.2.1.2.2, hF.1.1.2.2.2.2.1.1⟩, ⟨(hF.2.1.1.2 (hall 10 rfl)), (hF.2.1.2.1 (hall 11 rfl))⟩⟩⟩⟩, hp⟩
      refine allU_cons ?_ ?_
      · rintro L e w hLi hb hcl ⟨g41, g42, c_g41_0, c_g42_1, hF, hp⟩
        refine k_call [.agg (ints .u64 m25).toArray, .agg (ints .u64 m26).toArray] rfl (by kernel_rfl) (args2 hF.1.1.2.2.2.2.2.1 hF.1.1.2.2.2.2.2.2) (postilionref04_Plus_ok k m25 m26 lm25 lm26 _ (hp.toR (fun _ h => by cases h)) qr37) ?_
        rintro _ w' ⟨_, rfl, rfl, lr370, hpc⟩
        refine ⟨_, rfl, .inr (.of_below hpc.chg.to_below), ?_⟩; have hp := hp.below hpc.chg.to_below; clear hpc
        exact k_done ⟨g41, g42, c_g41_0, c_g42_1, ⟨⟨⟨⟨⟨(fun _ => lr370), hF.1.1.1.1.2⟩, hF.1.1.1.2⟩, hF.1.1.2⟩, ⟨⟨⟨(fun _ => rfl), hF.1.2.1.1.2⟩, hF.1.2.1.2⟩, hF.1.2.2⟩⟩, hF.2⟩, hp⟩
      refine allU_cons ?_ ?_
      · rintro L e w hLi hb hcl ⟨g41, g42, c_g41_0, c_g42_1, hF, hp⟩
        have hL3 := hb 3 (by kernel_rfl)
        have lr370 := hF.1.1.1.1.1 hL3
        refine k_call [.agg (ints .u64 r28).toArray, .agg (ints .u64 r37).toArray] rfl (by kernel_rfl) (args2 hF.1.1.2.2.2.2.1.2 (hF.1.2.1.1.1 hL3)) (postilionref04_Times_ok k r28 r37 lr280 lr370 _ (hp.toR (fun _ h => by cases h)) qr38) ?_
        rintro _ w' ⟨_, rfl, rfl, lr380, hpc⟩
        refine ⟨_, rfl, .inr (.of_below hpc.chg.to_below), ?_⟩; have hp := hp.below hpc.chg.to_below; clear hpc
        exact k_done ⟨g41, g42, c_g41_0, c_g42_1, ⟨⟨⟨⟨⟨hF.1.1.1.1.1, (fun _ => lr380)⟩, hF.1.1.1.2⟩, hF.1.1.2⟩, ⟨⟨⟨hF.1.2.1.1.1, (fun _ => rfl)⟩, hF.1.2.1.2⟩, hF.1.2.2⟩⟩, hF.2⟩, hp⟩
      refine allU_cons ?_ ?_
      · rintro L e w hLi hb hcl ⟨g41, g42, c_g41_0, c_g42_1, hF, hp⟩
        refine tk_ef ?_
        refine k_loadA (n := 4) (xs := ints .u64 r27) 0 rfl (by kernel_rfl) (by kernel_rfl) hF.1.1.2.2.2.1.1.2 (hp.get (j := 8) rfl) rfl rfl ((ints_length _ _).trans lr270) (fun m v hm => by rw [Nat.zero_add]; exact hm) ?_
        exact k_done ⟨g41, g42, c_g41_0, c_g42_1, ⟨⟨hF.1.1, ⟨⟨hF.1.2.1.1, (fun _ => rfl)⟩, hF.1.2.2⟩⟩, hF.2⟩, hp⟩
      refine allU_cons ?_ ?_
      · rintro L e w hLi hb hcl ⟨g41, g42, c_g41_0, c_g42_1, hF, hp⟩
        refine tk_ef ?_
        refine k_loadA (n := 4) (xs := ints .u64 m25) 0 rfl (by kernel_rfl) (by kernel_rfl) hF.1.1.2.2.1.2.1.2 (hp.get (j := 6) rfl) rfl rfl ((ints_length _ _).trans lm25) (fun m v hm => by rw [Nat.zero_add]; exact hm) ?_
        exact k_done ⟨g41, g42, c_g41_0, c_g42_1, ⟨⟨hF.1.1, ⟨hF.1.2.1, ⟨(fun _ => rfl), hF.1.2.2.2⟩⟩⟩, hF.2⟩, hp⟩
      refine allU_cons ?_ ?_
      · rintro L e w hLi hb hcl ⟨g41, g42, c_g41_0, c_g42_1, hF, hp⟩
        refine tk_ef ?_
        refine k_loadA (n := 4) (xs := ints .u64 m26) 0 rfl (by kernel_rfl) (by kernel_rfl) hF.1.1.2.2.1.2.2.1 (hp.get (j := 7) rfl) rfl rfl ((ints_length _ _).trans lm26) (fun m v hm => by rw [Nat.zero_add]; exact hm) ?_
        exact k_done ⟨g41, g42, c_g41_0, c_g42_1, ⟨⟨hF.1.1, ⟨hF.1.2.1, ⟨hF.1.2.2.1, (fun _ => rfl)⟩⟩⟩, hF.2⟩, hp⟩
      refine allU_cons ?_ ?_
      · rintro L e w hLi hb hcl ⟨g41, g42, c_g41_0, c_g42_1, hF, hp⟩
        have hL6 := hb 6 (by kernel_rfl)
        have hL7 := hb 7 (by kernel_rfl)
        refine k_call [.agg (ints .u64 m25).toArray, .agg (ints .u64 m26).toArray] rfl (by kernel_rfl) (args2 (hF.1.2.2.1 hL6) (hF.1.2.2.2 hL7)) (postilionref04_Minus_ok k m25 m26 lm25 lm26 _ (hp.toR (fun _ h => by cases h)) qr39) ?_
        rintro _ w' ⟨_, rfl, rfl, lr390, hpc⟩
        refine ⟨_, rfl, .inr (.of_below hpc.chg.to_below), ?_⟩; have hp := hp.below hpc.chg.to_below; clear hpc
        exact k_done ⟨g41, g42, c_g41_0, c_g42_1, ⟨⟨⟨⟨hF.1.1.1.1, (fun _ => lr390)⟩, hF.1.1.2⟩, hF.1.2⟩, ⟨⟨⟨⟨(fun _ => rfl), hF.2.1.1.1.2⟩, hF.2.1.1.2⟩, hF.2.1.2⟩, hF.2.2⟩⟩, hp⟩
      refine allU_cons ?_ ?_
      · rintro L e w hLi hb hcl ⟨g41, g42, c_g41_0, c_g42_1, hF, hp⟩
        have hL5 := hb 5 (by kernel_rfl)
        have hL8 := hb 8 (by kernel_rfl)
        have lr390 := hF.1.1.1.2 hL8
        refine k_call [.agg (ints .u64 r27).toArray, .agg (ints .u64 r39).toArray] rfl (by kernel_rfl) (args2 (hF.1.2.1.2 hL5) (hF.2.1.1.1.1 hL8)) (postilionref04_Times_ok k r27 r39 lr270 lr390 _ (hp.toR (fun _ h => by cases h)) qr40) ?_
        rintro _ w' ⟨_, rfl, rfl, lr400, hpc⟩
        refine ⟨_, rfl, .inr (.of_below hpc.chg.to_below), ?_⟩; have hp := hp.below hpc.chg.to_below; clear hpc
        exact k_done ⟨g41, g42, c_g41_0, c_g42_1, ⟨⟨⟨hF.1.1.1, ⟨(fun _ => lr400), hF.1.1.2.2⟩⟩, hF.1.2⟩, ⟨⟨⟨⟨hF.2.1.1.1.1, (fun _ => rfl)⟩, hF.2.1.1.2⟩, hF.2.1.2⟩, hF.2.2⟩⟩, hp⟩
      refine allU_cons ?_ ?_
      · rintro L e w hLi hb hcl ⟨g41, g42, c_g41_0, c_g42_1, hF, hp⟩
        have qc_g41_0 := hF.2.1.2.2 hLi
        rw [qc_g41_0] at hp
        refine k_allocAt 13 (ints .u64 (List.replicate 4 (0 : Int))) rfl (by kernel_rfl) hp ?_
        intro g41 w hbg41 hp
        exact k_done ⟨g41, g42, (List.replicate 4 (0 : Int)), c_g42_1, ⟨hF.1, ⟨⟨⟨hF.2.1.1.1, (fun _ => rfl)⟩, ⟨hF.2.1.2.1, (fun h => nomatch (show true = false from h))⟩⟩, ⟨⟨⟨(fun _ _ => rfl), (fun h => absurd (hLi.symm.trans (hcl 12 10 (by kernel_rfl) h)) (by decide))⟩, hF.2.2.1.2⟩, hF.2.2.2⟩⟩⟩, hp⟩
      refine allU_cons ?_ ?_
      · rintro L e w hLi hb hcl ⟨g41, g42, c_g41_0, c_g42_1, hF, hp⟩
        have qc_g42_1 := hF.2.2.1.2 hLi
        rw [qc_g42_1] at hp
        refine k_allocAt 14 (ints .u64 (List.replicate 4 (0 : Int))) rfl (by kernel_rfl) hp ?_
        intro g42 w hbg42 hp
        exact k_done ⟨g41, g42, c_g41_0, (List.replicate 4 (0 : Int)), ⟨hF.1, ⟨⟨hF.2.1.1, ⟨(fun _ => rfl), hF.2.1.2.2⟩⟩, ⟨⟨hF.2.2.1.1, (fun h => nomatch (show true = false from h))⟩, ⟨(fun _ _ => rfl), (fun h => absurd (hLi.symm.trans (hcl 13 11 (by kernel_rfl) h)) (by decide))⟩⟩⟩⟩, hp⟩
      refine allU_cons ?_ ?_
      · rintro L e w hLi hb hcl ⟨g41, g42, c_g41_0, c_g42_1, hF, hp⟩
        have hL4 := hb 4 (by kernel_rfl)
        have hL10 := hb 10 (by kernel_rfl)
        have lr380 := hF.1.1.1.1.2 hL4
        have qc_g41_0 := hF.2.2.1.1.1 hLi hL10
        rw [qc_g41_0] at hp
        refine k_storeA (v := .agg (ints .u64 r38).toArray) 13 0 (r := ⟨g41, 0, ints .u64 (List.replicate 4 (0 : Int))⟩) (ints .u64 r38) (ints .u64 r38) rfl (n := 4) (by kernel_rfl) (hF.2.1.1.2 hL10) (hF.1.2.1.1.2 hL4) rfl ((ints_length _ _).trans lr380) (ints_one _ _) hp rfl rfl rfl (Nat.le_of_eq ((Nat.zero_add _).trans ((ints_length _ _).trans List.length_replicate).symm)) (setMany_all _ _ (((ints_length _ _).trans lr380).trans ((ints_length _ _).trans List.length_replicate).symm)) (by decide) ?_; intro w hp
        exact k_done ⟨g41, g42, r38, c_g42_1, ⟨hF.1, ⟨⟨hF.2.1.1, ⟨hF.2.1.2.1, (fun h => absurd (hL10.symm.trans h) (by decide))⟩⟩, ⟨⟨⟨(fun h _ => nomatch (show true = false from h)), (fun _ => rfl)⟩, hF.2.2.1.2⟩, hF.2.2.2⟩⟩⟩, hp⟩
      refine allU_cons ?_ allU_nil
      · rintro L e w hLi hb hcl ⟨g41, g42, c_g41_0, c_g42_1, hF, hp⟩
        have hL9 := hb 9 (by kernel_rfl)
        have hL11 := hb 11 (by kernel_rfl)
        have lr400 := hF.1.1.2.1 hL9
        have qc_g42_1 := hF.2.2.2.1 hLi hL11
        rw [qc_g42_1] at hp
        refine k_storeA (v := .agg (ints .u64 r40).toArray) 14 0 (r := ⟨g42, 0, ints .u64 (List.replicate 4 (0 : Int))⟩) (ints .u64 r40) (ints .u64 r40) rfl (n := 4) (by kernel_rfl) (hF.2.1.2.1 hL11) (hF.2.1.1.1.2 hL9) rfl ((ints_length _ _).trans lr400) (ints_one _ _) hp rfl rfl rfl (Nat.le_of_eq ((Nat.zero_add _).trans ((ints_length _ _).trans List.length_replicate).symm)) (setMany_all _ _ (((ints_length _ _).trans lr400).trans ((ints_length _ _).trans List.length_replicate).symm)) (by decide) ?_; intro w hp
        exact k_done ⟨g41, g42, c_g41_0, r40, ⟨hF.1, ⟨hF.2.1, ⟨⟨hF.2.2.1.1, (fun h => absurd (hL11.symm.trans h) (by decide))⟩, ⟨(fun h _ => nomatch (show true = false from h)), (fun _ => rfl)⟩⟩⟩⟩, hp⟩
    rintro e316 w ⟨g41, g42, hF, hp⟩
    have lr380 := hF.1.1.1.1
    have lr400 := hF.1.1.1.2
    have s2_e316 := hF.1.1.2.1
    have s4_e316 := hF.1.1.2.2
    have s5_e316 := hF.1.2.1.1
    have s6_e316 := hF.1.2.1.2
    have s7_e316 := hF.1.2.2.1
    have s8_e316 := hF.1.2.2.2
    have s9_e316 := hF.2.1.1.1
    have s10_e316 := hF.2.1.1.2
    have s11_e316 := hF.2.1.2.1
    have s14_e316 := hF.2.1.2.2
    have s15_e316 := hF.2.2.1.1
    have s16_e316 := hF.2.2.1.2
    have s17_e316 := hF.2.2.2.1
    have s18_e316 := hF.2.2.2.2
    clear hF
    refine wseqP (p0 := [1, 1, 1, 1, 1, 1, 0, 1, 0, 0, 1, 0, 0, 1, 1, 1, 1, 1, 1, 0]) (p1 := [1, 1, 1, 1, 1, 1, 0, 1, 0, 0, 1, 0, 0, 1, 1, 1, 1, 1, 1, 1]) rfl rfl rfl ?_
    obtain ⟨r43, qr43, h⟩ := bd_e h
    obtain ⟨r44, qr44, h⟩ := bd_e h
    obtain ⟨r45, qr45, h⟩ := bd_e h
    obtain ⟨r46, qr46, h⟩ := bd_e h
    obtain ⟨r47, qr47, h⟩ := bd_e h
    obtain ⟨r48, qr48, h⟩ := bd_e h
    obtain ⟨r49, qr49, h⟩ := bd_e h
    refine wcut (fun e317 w2 => ((((r45.length = 4 ∧ r49.length = 4) ∧ (e317 2 = .pointer (some ⟨g1, 0, none⟩) ∧ e317 4 = .pointer (some ⟨g3, 0, none⟩))) ∧ ((e317 5 = .pointer (some ⟨g6, 0, none⟩) ∧ e317 6 = .pointer (some ⟨g10, 0, none⟩)) ∧ e317 7 = .pointer (some ⟨g11, 0, none⟩))) ∧ (((e317 8 = .pointer (some ⟨g12, 0, none⟩) ∧ e317 9 = .pointer (some ⟨g13, 0, none⟩)) ∧ (e317 10 = .int .i64 y18 ∧ e317 11 = .int .u8 x21)) ∧ ((e317 14 = .pointer (some ⟨g33, 0, none⟩) ∧ e317 15 = .pointer (some ⟨g34, 0, none⟩)) ∧ e317 16 = .pointer (some ⟨g36, 0, none⟩)))) ∧ Hp w0 Ws w2 [⟨g1, 0, ints .u8 x4⟩, ⟨g2, 0, ints .u8 (a1.set 31 (bits .and .u8 (a1.getD 31 0) 127))⟩, ⟨g3, 0, ints .u8 (List.replicate 32 (0 : Int))⟩, ⟨g6, 0, ints .u64 r5⟩, ⟨g10, 0, ints .u64 m23⟩, ⟨g11, 0, ints .u64 m24⟩, ⟨g12, 0, ints .u64 r45⟩, ⟨g13, 0, ints .u64 r49⟩, ⟨g29, 0, ints .u64 r27⟩, ⟨g30, 0, ints .u64 r28⟩, ⟨g33, 0, ints .u64 r31⟩, ⟨g34, 0, ints .u64 r32⟩, ⟨g36, 0, ints .u64 r35⟩, ⟨g41, 0, ints .u64 r38⟩, ⟨g42, 0, ints .u64 r40⟩] []) ?_ ?_
    rotate_left
    · refine wregionM postilionref03_Mul.o16 (.tk 0 (.tk 1 (.tk 3 (.tk 4 (.rest 27 14))))) [16, 17] [(0, 0, 0), (0, 0, 0), (3, 262143, 262143), (0, 0, 0), (0, 0, 0), (28, 262143, 262143), (36, 262143, 262143), (0, 262143, 262143), (0, 262143, 262143), (0, 262143, 262143), (832, 262143, 262143), (0, 262143, 262143), (0, 262143, 262143), (7168, 262143, 262143), (9216, 262143, 262143), (16512, 262143, 262143), (32895, 262143, 262143), (131071, 262143, 262143)] rfl rfl (by kernel_rfl) (by kernel_rfl) (Nat.le_of_ble_eq_true (by kernel_rfl)) (by kernel_rfl) (by kernel_rfl) (by kernel_rfl) ?_
      have hp := hp.drew
      refine k_loadA (n := 4) (xs := ints .u64 r38) 0 rfl (by kernel_rfl) (by kernel_rfl) s17_e316 (hp.get (j := 13) rfl) rfl rfl ((ints_length _ _).trans lr380) (fun m v hm => by rw [Nat.zero_add]; exact hm) ?_
      refine k_loadA (n := 4) (xs := ints .u64 r40) 0 rfl (by kernel_rfl) (by kernel_rfl) s18_e316 (hp.get (j := 14) rfl) rfl rfl ((ints_length _ _).trans lr400) (fun m v hm => by rw [Nat.zero_add]; exact hm) ?_
      refine k_loadA (n := 4) (xs := ints .u64 r38) 0 rfl (by kernel_rfl) (by kernel_rfl) s17_e316 (hp.get (j := 13) rfl) rfl rfl ((ints_length _ _).trans lr380) (fun m v hm => by rw [Nat.zero_add]; exact hm) ?_
      refine k_loadA (n := 4) (xs := ints .u64 r40) 0 rfl (by kernel_rfl) (by kernel_rfl) s18_e316 (hp.get (j := 14) rfl) rfl rfl ((ints_length _ _).trans lr400) (fun m v hm => by rw [Nat.zero_add]; exact hm) ?_
      refine k_rest [2, 5, 6, 7, 8, 9, 10, 11, 12, 13, 14, 15, 16, 17] (fun L e w => ∃ c_g12_0 c_g13_1 : List Int, ((((((L 2 = true → r43.length = 4) ∧ (L 5 = true → r44.length = 4)) ∧ (L 6 = true → r45.length = 4)) ∧ (((L 10 = true → r46.length = 4) ∧ (L 13 = true → r47.length = 4)) ∧ (L 14 = true → r48.length = 4))) ∧ ((((L 15 = true → r49.length = 4) ∧ (((((e 2 = .pointer (some ⟨g1, 0, none⟩) ∧ e 4 = .pointer (some ⟨g3, 0, none⟩)) ∧ e 5 = .pointer (some ⟨g6, 0, none⟩)) ∧ (e 6 = .pointer (some ⟨g10, 0, none⟩) ∧ e 7 = .pointer (some ⟨g11, 0, none⟩))) ∧ ((e 8 = .pointer (some ⟨g12, 0, none⟩) ∧ e 9 = .pointer (some ⟨g13, 0, none⟩)) ∧ (e 10 = .int .i64 y18 ∧ e 11 = .int .u8 x21))) ∧ ((((e 14 = .pointer (some ⟨g33, 0, none⟩) ∧ e 15 = .pointer (some ⟨g34, 0, none⟩)) ∧ e 16 = .pointer (some ⟨g36, 0, none⟩)) ∧ (e 17 = .pointer (some ⟨g41, 0, none⟩) ∧ e 18 = .pointer (some ⟨g42, 0, none⟩))) ∧ ((e 81 = .agg (ints .u64 r38).toArray ∧ e 82 = .agg (ints .u64 r40).toArray) ∧ (e 84 = .agg (ints .u64 r38).toArray ∧ e 85 = .agg (ints .u64 r40).toArray))))) ∧ (L 2 = true → e 83 = .agg (ints .u64 r43).toArray)) ∧ (((L 5 = true → e 86 = .agg (ints .u64 r44).toArray) ∧ (L 6 = true → e 87 = .agg (ints .u64 r45).toArray)) ∧ (L 7 = true → e 88 = .agg (ints .u64 r5).toArray)))) ∧ (((((L 8 = true → e 89 = .agg (ints .u64 r38).toArray) ∧ (L 9 = true → e 90 = .agg (ints .u64 r40).toArray)) ∧ (L 10 = true → e 91 = .agg (ints .u64 r46).toArray)) ∧ (((L 11 = true → e 92 = .agg (ints .u64 r38).toArray) ∧ (L 12 = true → e 93 = .agg (ints .u64 r40).toArray)) ∧ (L 13 = true → e 94 = .agg (ints .u64 r47).toArray))) ∧ ((((L 14 = true → e 95 = .agg (ints .u64 r48).toArray) ∧ (L 15 = true → e 96 = .agg (ints .u64 r49).toArray)) ∧ (L 16 = false → c_g12_0 = m25)) ∧ (((L 16 = true → c_g12_0 = r45) ∧ (L 17 = false → c_g13_1 = m26)) ∧ (L 17 = true → c_g13_1 = r49))))) ∧ Hp w0 Ws w [⟨g1, 0, ints .u8 x4⟩, ⟨g2, 0, ints .u8 (a1.set 31 (bits .and .u8 (a1.getD 31 0) 127))⟩, ⟨g3, 0, ints .u8 (List.replicate 32 (0 : Int))⟩, ⟨g6, 0, ints .u64 r5⟩, ⟨g10, 0, ints .u64 m23⟩, ⟨g11, 0, ints .u64 m24⟩, ⟨g12, 0, ints .u64 c_g12_0⟩, ⟨g13, 0, ints .u64 c_g13_1⟩, ⟨g29, 0, ints .u64 r27⟩, ⟨g30, 0, ints .u64 r28⟩, ⟨g33, 0, ints .u64 r31⟩, ⟨g34, 0, ints .u64 r32⟩, ⟨g36, 0, ints .u64 r35⟩, ⟨g41, 0, ints .u64 r38⟩, ⟨g42, 0, ints .u64 r40⟩] []) (by kernel_rfl) (by kernel_rfl) ?_ ?_ ?_
      · exact ⟨m25, m26, ⟨⟨⟨⟨⟨(fun h => absurd h (by decide)), (fun h => absurd h (by decide))⟩, (fun h => absurd h (by decide))⟩, ⟨⟨(fun h => absurd h (by decide)), (fun h => absurd h (by decide))⟩, (fun h => absurd h (by decide))⟩⟩, ⟨⟨⟨(fun h => absurd h (by decide)), ⟨⟨⟨⟨⟨s2_e316, s4_e316⟩, s5_e316⟩, ⟨s6_e316, s7_e316⟩⟩, ⟨⟨s8_e316, s9_e316⟩, ⟨s10_e316, s11_e316⟩⟩⟩, ⟨⟨⟨⟨s14_e316, s15_e316⟩, s16_e316⟩, ⟨s17_e316, s18_e316⟩⟩, ⟨⟨rfl, rfl⟩, ⟨rfl, rfl⟩⟩⟩⟩⟩, (fun h => absurd h (by decide))⟩, ⟨⟨(fun h => absurd h (by decide)), (fun h => absurd h (by decide))⟩, (fun h => absurd h (by decide))⟩⟩⟩, ⟨⟨⟨⟨(fun h => absurd h (by decide)), (fun h => absurd h (by decide))⟩, (fun h => absurd h (by decide))⟩, ⟨⟨(fun h => absurd h (by decide)), (fun h => absurd h (by decide))⟩, (fun h => absurd h (by decide))⟩⟩, ⟨⟨⟨(fun h => absurd h (by decide)), (fun h => absurd h (by decide))⟩, (fun _ => rfl)⟩, ⟨⟨(fun h => absurd h (by decide)), (fun _ => rfl)⟩, (fun h => absurd h (by decide))⟩⟩⟩⟩, hp⟩
      · rintro L e w hall ⟨c_g12_0, c_g13_1, hF, hp⟩
        have qc_g12_0 := hF.2.2.2.1.1 (hall 16 rfl)
        rw [qc_g12_0] at hp
        have qc_g13_1 := hF.2.2.2.2 (hall 17 rfl)
        rw [qc_g13_1] at hp
        exact onlyN_i ⟨⟨⟨⟨⟨(hF.1.1.1.2 (hall 6 rfl)), (hF.1.2.1.1.1 (hall 15 rfl))⟩, ⟨hF.1.2.1.1.2.1.1.1.1.1, hF.1.2.1.1.2.1.1.1.1.2⟩⟩, ⟨⟨hF.1.2.1.1.2.1.1.1.2, hF.1.2.1.1.2.1.1.2.1⟩, hF.1.2.1.1.2.1.1.2.2⟩⟩, ⟨⟨⟨hF.1.2.1.1.2.1.2.1.1, hF.1.2.1.1.2.1.2.1.2⟩, ⟨hF.1.2.1.1.2.1.2.2.1, hF.1.2.1.1.2.1.2.2.2⟩⟩, ⟨⟨hF.1.2.1.1.2.2.1.1.1.1, hF.1.2.1.1.2.2.1.1.1.2⟩, hF.1.2.1.1.2.2.1.1.2⟩⟩⟩, hp⟩
      refine allU_cons ?_ ?_
      · rintro L e w hLi hb hcl ⟨c_g12_0, c_g13_1, hF, hp⟩
        refine k_call [.agg (ints .u64 r38).toArray, .agg (ints .u64 r40).toArray] rfl (by kernel_rfl) (args2 hF.1.2.1.1.2.2.2.1.1 hF.1.2.1.1.2.2.2.1.2) (postilionref04_Plus_ok k r38 r40 lr380 lr400 _ (hp.toR (fun _ h => by cases h)) qr43) ?_
        rintro _ w' ⟨_, rfl, rfl, lr430, hpc⟩
        refine ⟨_, rfl, .inr (.of_below hpc.chg.to_below), ?_⟩; have hp := hp.below hpc.chg.to_below; clear hpc
        exact k_done ⟨c_g12_0, c_g13_1, ⟨⟨⟨⟨⟨(fun _ => lr430), hF.1.1.1.1.2⟩, hF.1.1.1.2⟩, hF.1.1.2⟩, ⟨⟨hF.1.2.1.1, (fun _ => rfl)⟩, hF.1.2.2⟩⟩, hF.2⟩, hp⟩
      refine allU_cons ?_ ?_
      · rintro L e w hLi hb hcl ⟨c_g12_0, c_g13_1, hF, hp⟩
        refine k_call [.agg (ints .u64 r38).toArray, .agg (ints .u64 r40).toArray] rfl (by kernel_rfl) (args2 hF.1.2.1.1.2.2.2.2.1 hF.1.2.1.1.2.2.2.2.2) (postilionref04_Plus_ok k r38 r40 lr380 lr400 _ (hp.toR (fun _ h => by cases h)) qr44) ?_
        rintro _ w' ⟨_, rfl, rfl, lr440, hpc⟩
        refine ⟨_, rfl, .inr (.of_below hpc.chg.to_below), ?_⟩; have hp := hp.below hpc.chg.to_below; clear hpc
        exact k_done ⟨c_g12_0, c_g13_1, ⟨⟨⟨⟨⟨hF.1.1.1.1.1, (fun _ => lr440)⟩, hF.1.1.1.2⟩, hF.1.1.2⟩, ⟨hF.1.2.1, ⟨⟨(fun _ => rfl), hF.1.2.2.1.2⟩, hF.1.2.2.2⟩⟩⟩, hF.2⟩, hp⟩
      refine allU_cons ?_ ?_
      · rintro L e w hLi hb hcl ⟨c_g12_0, c_g13_1, hF, hp⟩
        have hL2 := hb 2 (by kernel_rfl)
        have hL5 := hb 5 (by kernel_rfl)
        have lr430 := hF.1.1.1.1.1 hL2
        have lr440 := hF.1.1.1.1.2 hL5
        refine k_call [.agg (ints .u64 r43).toArray, .agg (ints .u64 r44).toArray] rfl (by kernel_rfl) (args2 (hF.1.2.1.2 hL2) (hF.1.2.2.1.1 hL5)) (postilionref04_Times_ok k r43 r44 lr430 lr440 _ (hp.toR (fun _ h => by cases h)) qr45) ?_
        rintro _ w' ⟨_, rfl, rfl, lr450, hpc⟩
        refine ⟨_, rfl, .inr (.of_below hpc.chg.to_below), ?_⟩; have hp := hp.below hpc.chg.to_below; clear hpc
        exact k_done ⟨c_g12_0, c_g13_1, ⟨⟨⟨⟨hF.1.1.1.1, (fun _ => lr450)⟩, hF.1.1.2⟩, ⟨hF.1.2.1, ⟨⟨hF.1.2.2.1.1, (fun _ => rfl)⟩, hF.1.2.2.2⟩⟩⟩, hF.2⟩, hp⟩
      refine allU_cons ?_ ?_
      · rintro L e w hLi hb hcl ⟨c_g12_0, c_g13_1, hF, hp⟩
        refine tk_ef ?_
        refine k_loadA (n := 4) (xs := ints .u64 r5) 0 rfl (by kernel_rfl) (by kernel_rfl) hF.1.2.1.1.2.1.1.1.2 (hp.get (j := 3) rfl) rfl rfl ((ints_length _ _).trans lr50) (fun m v hm => by rw [Nat.zero_add]; exact hm) ?_
        exact k_done ⟨c_g12_0, c_g13_1, ⟨⟨hF.1.1, ⟨hF.1.2.1, ⟨hF.1.2.2.1, (fun _ => rfl)⟩⟩⟩, hF.2⟩, hp⟩
      refine allU_cons ?_ ?_
      · rintro L e w hLi hb hcl ⟨c_g12_0, c_g13_1, hF, hp⟩
        refine tk_ef ?_
        refine k_loadA (n := 4) (xs := ints .u64 r38) 0 rfl (by kernel_rfl) (by kernel_rfl) hF.1.2.1.1.2.2.1.2.1 (hp.get (j := 13) rfl) rfl rfl ((ints_length _ _).trans lr380) (fun m v hm => by rw [Nat.zero_add]; exact hm) ?_
        exact k_done ⟨c_g12_0, c_g13_1, ⟨hF.1, ⟨⟨⟨⟨(fun _ => rfl), hF.2.1.1.1.2⟩, hF.2.1.1.2⟩, hF.2.1.2⟩, hF.2.2⟩⟩, hp⟩
      refine allU_cons ?_ ?_
      · rintro L e w hLi hb hcl ⟨c_g12_0, c_g13_1, hF, hp⟩
        refine tk_ef ?_
        refine k_loadA (n := 4) (xs := ints .u64 r40) 0 rfl (by kernel_rfl) (by kernel_rfl) hF.1.2.1.1.2.2.1.2.2 (hp.get (j := 14) rfl) rfl rfl ((ints_length _ _).trans lr400) (fun m v hm => by rw [Nat.zero_add]; exact hm) ?_
        exact k_done ⟨c_g12_0, c_g13_1, ⟨hF.1, ⟨⟨⟨⟨hF.2.1.1.1.1, (fun _ => rfl)⟩, hF.2.1.1.2⟩, hF.2.1.2⟩, hF.2.2⟩⟩, hp⟩
      refine allU_cons ?_ ?_
      · rintro L e w hLi hb hcl ⟨c_g12_0, c_g13_1, hF, hp⟩
        have hL8 := hb 8 (by kernel_rfl)
        have hL9 := hb 9 (by kernel_rfl)
        refine k_call [.agg (ints .u64 r38).toArray, .agg (ints .u64 r40).toArray] rfl (by kernel_rfl) (args2 (hF.2.1.1.1.1 hL8) (hF.2.1.1.1.2 hL9)) (postilionref04_Minus_ok k r38 r40 lr380 lr400 _ (hp.toR (fun _ h => by cases h)) qr46) ?_
        rintro _ w' ⟨_, rfl, rfl, lr460, hpc⟩
        refine ⟨_, rfl, .inr (.of_below hpc.chg.to_below), ?_⟩; have hp := hp.below hpc.chg.to_below; clear hpc
        exact k_done ⟨c_g12_0, c_g13_1, ⟨⟨⟨hF.1.1.1, ⟨⟨(fun _ => lr460), hF.1.1.2.1.2⟩, hF.1.1.2.2⟩⟩, hF.1.2⟩, ⟨⟨⟨hF.2.1.1.1, (fun _ => rfl)⟩, hF.2.1.2⟩, hF.2.2⟩⟩, hp⟩
      refine allU_cons ?_ ?_
      · rintro L e w hLi hb hcl ⟨c_g12_0, c_g13_1, hF, hp⟩
        refine tk_ef ?_
        refine k_loadA (n := 4) (xs := ints .u64 r38) 0 rfl (by kernel_rfl) (by kernel_rfl) hF.1.2.1.1.2.2.1.2.1 (hp.get (j := 13) rfl) rfl rfl ((ints_length _ _).trans lr380) (fun m v hm => by rw [Nat.zero_add]; exact hm) ?_
        exact k_done ⟨c_g12_0, c_g13_1, ⟨hF.1, ⟨⟨hF.2.1.1, ⟨⟨(fun _ => rfl), hF.2.1.2.1.2⟩, hF.2.1.2.2⟩⟩, hF.2.2⟩⟩, hp⟩
      refine allU_cons ?_ ?_
      · rintro L e w hLi hb hcl ⟨c_g12_0, c_g13_1, hF, hp⟩
        refine tk_ef ?_
        refine k_loadA (n := 4) (xs := ints .u64 r40) 0 rfl (by kernel_rfl) (by kernel_rfl) hF.1.2.1.1.2.2.1.2.2 (hp.get (j := 14) rfl) rfl rfl ((ints_length _ _).trans lr400) (fun m v hm => by rw [Nat.zero_add]; exact hm) ?_
        exact k_done ⟨c_g12_0, c_g13_1, ⟨hF.1, ⟨⟨hF.2.1.1, ⟨⟨hF.2.1.2.1.1, (fun _ => rfl)⟩, hF.2.1.2.2⟩⟩, hF.2.2⟩⟩, hp⟩
      refine allU_cons ?_ ?_
      · rintro L e w hLi hb hcl ⟨c_g12_0, c_g13_1, hF, hp⟩
        have hL11 := hb 11 (by kernel_rfl)
        have hL12 := hb 12 (by kernel_rfl)
        refine k_call [.agg (ints .u64 r38).toArray, .agg (ints .u64 r40).toArray] rfl (by kernel_rfl) (args2 (hF.2.1.2.1.1 hL11) (hF.2.1.2.1.2 hL12)) (postilionref04_Minus_ok k r38 r40 lr380 lr400 _ (hp.toR (fun _ h => by cases h)) qr47) ?_
        rintro _ w' ⟨_, rfl, rfl, lr470, hpc⟩
        refine ⟨_, rfl, .inr (.of_below hpc.chg.to_below), ?_⟩; have hp := hp.below hpc.chg.to_below; clear hpc
        exact k_done ⟨c_g12_0, c_g13_1, ⟨⟨⟨hF.1.1.1, ⟨⟨hF.1.1.2.1.1, (fun _ => lr470)⟩, hF.1.1.2.2⟩⟩, hF.1.2⟩, ⟨⟨hF.2.1.1, ⟨hF.2.1.2.1, (fun _ => rfl)⟩⟩, hF.2.2⟩⟩, hp⟩
      refine allU_cons ?_ ?_
      · rintro L e w hLi hb hcl ⟨c_g12_0, c_g13_1, hF, hp⟩
        have hL10 := hb 10 (by kernel_rfl)
        have hL13 := hb 13 (by kernel_rfl)
        have lr460 := hF.1.1.2.1.1 hL10
        have lr470 := hF.1.1.2.1.2 hL13
        refine k_call [.agg (ints .u64 r46).toArray, .agg (ints .u64 r47).toArray] rfl (by kernel_rfl) (args2 (hF.2.1.1.2 hL10) (hF.2.1.2.2 hL13)) (postilionref04_Times_ok k r46 r47 lr460 lr470 _ (hp.toR (fun _ h => by cases h)) qr48) ?_
        rintro _ w' ⟨_, rfl, rfl, lr480, hpc⟩
        refine ⟨_, rfl, .inr (.of_below hpc.chg.to_below), ?_⟩; have hp := hp.below hpc.chg.to_below; clear hpc
        exact k_done ⟨c_g12_0, c_g13_1, ⟨⟨⟨hF.1.1.1, ⟨hF.1.1.2.1, (fun _ => lr480)⟩⟩, hF.1.2⟩, ⟨hF.2.1, ⟨⟨⟨(fun _ => rfl), hF.2.2.1.1.2⟩, hF.2.2.1.2⟩, hF.2.2.2⟩⟩⟩, hp⟩
      refine allU_cons ?_ ?_
      · rintro L e w hLi hb hcl ⟨c_g12_0, c_g13_1, hF, hp⟩
        have hL7 := hb 7 (by kernel_rfl)
        have hL14 := hb 14 (by kernel_rfl)
        have lr480 := hF.1.1.2.2 hL14
        refine k_call [.agg (ints .u64 r5).toArray, .agg (ints .u64 r48).toArray] rfl (by kernel_rfl) (args2 (hF.1.2.2.2 hL7) (hF.2.2.1.1.1 hL14)) (postilionref04_Times_ok k r5 r48 lr50 lr480 _ (hp.toR (fun _ h => by cases h)) qr49) ?_
        rintro _ w' ⟨_, rfl, rfl, lr490, hpc⟩
        refine ⟨_, rfl, .inr (.of_below hpc.chg.to_below), ?_⟩; have hp := hp.below hpc.chg.to_below; clear hpc
        exact k_done ⟨c_g12_0, c_g13_1, ⟨⟨hF.1.1, ⟨⟨⟨(fun _ => lr490), hF.1.2.1.1.2⟩, hF.1.2.1.2⟩, hF.1.2.2⟩⟩, ⟨hF.2.1, ⟨⟨⟨hF.2.2.1.1.1, (fun _ => rfl)⟩, hF.2.2.1.2⟩, hF.2.2.2⟩⟩⟩, hp⟩
      refine allU_cons ?_ ?_
      · rintro L e w hLi hb hcl ⟨c_g12_0, c_g13_1, hF, hp⟩
        have hL6 := hb 6 (by kernel_rfl)
        have lr450 := hF.1.1.1.2 hL6
        have qc_g12_0 := hF.2.2.1.2 hLi
        rw [qc_g12_0] at hp
        refine k_storeA (v := .agg (ints .u64 r45).toArray) 6 0 (r := ⟨g12, 0, ints .u64 m25⟩) (ints .u64 r45) (ints .u64 r45) rfl (n := 4) (by kernel_rfl) hF.1.2.1.1.2.1.2.1.1 (hF.1.2.2.1.2 hL6) rfl ((ints_length _ _).trans lr450) (ints_one _ _) hp rfl rfl rfl (Nat.le_of_eq ((Nat.zero_add _).trans ((ints_length _ _).trans lm25).symm)) (setMany_all _ _ (((ints_length _ _).trans lr450).trans ((ints_length _ _).trans lm25).symm)) (by decide) ?_; intro w hp
        exact k_done ⟨r45, c_g13_1, ⟨hF.1, ⟨hF.2.1, ⟨⟨hF.2.2.1.1, (fun h => nomatch (show true = false from h))⟩, ⟨⟨(fun _ => rfl), hF.2.2.2.1.2⟩, hF.2.2.2.2⟩⟩⟩⟩, hp⟩
      refine allU_cons ?_ allU_nil
      · rintro L e w hLi hb hcl ⟨c_g12_0, c_g13_1, hF, hp⟩
        have hL15 := hb 15 (by kernel_rfl)
        have lr490 := hF.1.2.1.1.1 hL15
        have qc_g13_1 := hF.2.2.2.1.2 hLi
        rw [qc_g13_1] at hp
        refine k_storeA (v := .agg (ints .u64 r49).toArray) 7 0 (r := ⟨g13, 0, ints .u64 m26⟩) (ints .u64 r49) (ints .u64 r49) rfl (n := 4) (by kernel_rfl) hF.1.2.1.1.2.1.2.1.2 (hF.2.2.1.1.2 hL15) rfl ((ints_length _ _).trans lr490) (ints_one _ _) hp rfl rfl rfl (Nat.le_of_eq ((Nat.zero_add _).trans ((ints_length _ _).trans lm26).symm)) (setMany_all _ _ (((ints_length _ _).trans lr490).trans ((ints_length _ _).trans lm26).symm)) (by decide) ?_; intro w hp
        exact k_done ⟨c_g12_0, r49, ⟨hF.1, ⟨hF.2.1, ⟨hF.2.2.1, ⟨⟨hF.2.2.2.1.1, (fun h => nomatch (show true = false from h))⟩, (fun _ => rfl)⟩⟩⟩⟩, hp⟩
    rintro e317 w ⟨hF, hp⟩
    have lr450 := hF.1.1.1.1
    have lr490 := hF.1.1.1.2
    have s2_e317 := hF.1.1.2.1
    have s4_e317 := hF.1.1.2.2
    have s5_e317 := hF.1.2.1.1
    have s6_e317 := hF.1.2.1.2
    have s7_e317 := hF.1.2.2
    have s8_e317 := hF.2.1.1.1
    have s9_e317 := hF.2.1.1.2
    have s10_e317 := hF.2.1.2.1
    have s11_e317 := hF.2.1.2.2
    have s14_e317 := hF.2.2.1.1
    have s15_e317 := hF.2.2.1.2
    have s16_e317 := hF.2.2.2
    clear hF
    refine wseqP (p0 := [1, 1, 1, 1, 1, 1, 0, 1, 0, 0, 1, 0, 0, 1, 1, 1, 1, 1, 1, 1, 0]) (p1 := [1, 1, 1, 1, 1, 1, 0, 1, 0, 0, 1, 0, 0, 1, 1, 1, 1, 1, 1, 1, 1]) rfl rfl rfl ?_
    obtain ⟨r50, qr50, h⟩ := bd_e h
    obtain ⟨r51, qr51, h⟩ := bd_e h
    obtain ⟨r52, qr52, h⟩ := bd_e h
    obtain ⟨r53, qr53, h⟩ := bd_e h
    obtain ⟨r54, qr54, h⟩ := bd_e h
    refine wcut (fun e318 w2 => ((((r50.length = 4 ∧ r54.length = 4) ∧ e318 2 = .pointer (some ⟨g1, 0, none⟩)) ∧ ((e318 4 = .pointer (some ⟨g3, 0, none⟩) ∧ e318 5 = .pointer (some ⟨g6, 0, none⟩)) ∧ e318 6 = .pointer (some ⟨g10, 0, none⟩))) ∧ (((e318 7 = .pointer (some ⟨g11, 0, none⟩) ∧ e318 8 = .pointer (some ⟨g12, 0, none⟩)) ∧ e318 9 = .pointer (some ⟨g13, 0, none⟩)) ∧ (e318 10 = .int .i64 y18 ∧ e318 11 = .int .u8 x21))) ∧ Hp w0 Ws w2 [⟨g1, 0, ints .u8 x4⟩, ⟨g2, 0, ints .u8 (a1.set 31 (bits .and .u8 (a1.getD 31 0) 127))⟩, ⟨g3, 0, ints .u8 (List.replicate 32 (0 : Int))⟩, ⟨g6, 0, ints .u64 r5⟩, ⟨g10, 0, ints .u64 r50⟩, ⟨g11, 0, ints .u64 r54⟩, ⟨g12, 0, ints .u64 r45⟩, ⟨g13, 0, ints .u64 r49⟩, ⟨g29, 0, ints .u64 r27⟩, ⟨g30, 0, ints .u64 r28⟩, ⟨g33, 0, ints .u64 r31⟩, ⟨g34, 0, ints .u64 r32⟩, ⟨g36, 0, ints .u64 r35⟩, ⟨g41, 0, ints .u64 r38⟩, ⟨g42, 0, ints .u64 r40⟩] []) ?_ ?_
    rotate_left
    · refine wregionM postilionref03_Mul.o17 (.tk 0 (.tk 1 (.rest 3 10))) [10, 11] [(0, 0, 0), (0, 0, 0), (3, 4095, 4095), (0, 4095, 4095), (0, 4095, 4095), (4, 4095, 4095), (0, 4095, 4095), (96, 4095, 4095), (144, 4095, 4095), (264, 4095, 4095), (519, 4095, 4095), (2047, 4095, 4095)] rfl rfl (by kernel_rfl) (by kernel_rfl) (Nat.le_of_ble_eq_true (by kernel_rfl)) (by kernel_rfl) (by kernel_rfl) (by kernel_rfl) ?_
      have hp := hp.drew
      refine k_loadA (n := 4) (xs := ints .u64 r31) 0 rfl (by kernel_rfl) (by kernel_rfl) s14_e317 (hp.get (j := 10) rfl) rfl rfl ((ints_length _ _).trans lr310) (fun m v hm => by rw [Nat.zero_add]; exact hm) ?_
      refine k_loadA (n := 4) (xs := ints .u64 r32) 0 rfl (by kernel_rfl) (by kernel_rfl) s15_e317 (hp.get (j := 11) rfl) rfl rfl ((ints_length _ _).trans lr320) (fun m v hm => by rw [Nat.zero_add]; exact hm) ?_
      refine k_rest [2, 3, 4, 5, 6, 7, 8, 9, 10, 11] (fun L e w => ∃ c_g10_0 c_g11_1 : List Int, ((((((L 2 = true → r50.length = 4) ∧ (L 5 = true → r51.length = 4)) ∧ (L 7 = true → r52.length = 4)) ∧ ((L 8 = true → r53.length = 4) ∧ (L 9 = true → r54.length = 4))) ∧ ((((((e 2 = .pointer (some ⟨g1, 0, none⟩) ∧ e 4 = .pointer (some ⟨g3, 0, none⟩)) ∧ (e 5 = .pointer (some ⟨g6, 0, none⟩) ∧ e 6 = .pointer (some ⟨g10, 0, none⟩))) ∧ ((e 7 = .pointer (some ⟨g11, 0, none⟩) ∧ e 8 = .pointer (some ⟨g12, 0, none⟩)) ∧ e 9 = .pointer (some ⟨g13, 0, none⟩))) ∧ (((e 10 = .int .i64 y18 ∧ e 11 = .int .u8 x21) ∧ e 14 = .pointer (some ⟨g33, 0, none⟩)) ∧ ((e 16 = .pointer (some ⟨g36, 0, none⟩) ∧ e 97 = .agg (ints .u64 r31).toArray) ∧ e 98 = .agg (ints .u64 r32).toArray))) ∧ (L 2 = true → e 99 = .agg (ints .u64 r50).toArray)) ∧ ((L 3 = true → e 100 = .agg (ints .u64 r35).toArray) ∧ (L 4 = true → e 101 = .agg (ints .u64 r31).toArray)))) ∧ (((((L 5 = true → e 102 = .agg (ints .u64 r51).toArray) ∧ (L 6 = true → e 103 = .agg (ints .u64 r35).toArray)) ∧ (L 7 = true → e 104 = .agg (ints .u64 r52).toArray)) ∧ ((L 8 = true → e 105 = .agg (ints .u64 r53).toArray) ∧ (L 9 = true → e 106 = .agg (ints .u64 r54).toArray))) ∧ (((L 10 = false → c_g10_0 = m23) ∧ (L 10 = true → c_g10_0 = r50)) ∧ ((L 11 = false → c_g11_1 = m24) ∧ (L 11 = true → c_g11_1 = r54))))) ∧ Hp w0 Ws w [⟨g1, 0, ints .u8 x4⟩, ⟨g2, 0, ints .u8 (a1.set 31 (bits .and .u8 (a1.getD 31 0) 127))⟩, ⟨g3, 0, ints .u8 (List.replicate 32 (0 : Int))⟩, ⟨g6, 0, ints .u64 r5⟩, ⟨g10, 0, ints .u64 c_g10_0⟩, ⟨g11, 0, ints .u64 c_g11_1⟩, ⟨g12, 0, ints .u64 r45⟩, ⟨g13, 0, ints .u64 r49⟩, ⟨g29, 0, ints .u64 r27⟩, ⟨g30, 0, ints .u64 r28⟩, ⟨g33, 0, ints .u64 r31⟩, ⟨g34, 0, ints .u64 r32⟩, ⟨g36, 0, ints .u64 r35⟩, ⟨g41, 0, ints .u64 r38⟩, ⟨g42, 0, ints .u64 r40⟩] []) (by kernel_rfl) (by kernel_rfl) ?_ ?_ ?_
      · exact ⟨m23, m24, ⟨⟨⟨⟨⟨(fun h => absurd h (by decide)), (fun h => absurd h (by decide))⟩, (fun h => absurd h (by decide))⟩, ⟨(fun h => absurd h (by decide)), (fun h => absurd h (by decide))⟩⟩, ⟨⟨⟨⟨⟨⟨s2_e317, s4_e317⟩, ⟨s5_e317, s6_e317⟩⟩, ⟨⟨s7_e317, s8_e317⟩, s9_e317⟩⟩, ⟨⟨⟨s10_e317, s11_e317⟩, s14_e317⟩, ⟨⟨s16_e317, rfl⟩, rfl⟩⟩⟩, (fun h => absurd h (by decide))⟩, ⟨(fun h => absurd h (by decide)), (fun h => absurd h (by decide))⟩⟩⟩, ⟨⟨⟨⟨(fun h => absurd h (by decide)), (fun h => absurd h (by decide))⟩, (fun h => absurd h (by decide))⟩, ⟨(fun h => absurd h (by decide)), (fun h => absurd h (by decide))⟩⟩, ⟨⟨(fun _ => rfl), (fun h => absurd h (by decide))⟩, ⟨(fun _ => rfl), (fun h => absurd h (by decide))⟩⟩⟩⟩, hp⟩
      · rintro L e w hall ⟨c_g10_0, c_g11_1, hF, hp⟩
        have qc_g10_0 := hF.2.2.1.2 (hall 10 rfl)
        rw [qc_g10_0] at hp
        have qc_g11_1 := hF.2.2.2.2 (hall 11 rfl)
        rw [qc_g11_1] at hp
        exact onlyN_i ⟨⟨⟨⟨⟨(hF.1.1.1.1.1 (hall 2 rfl)), (hF.1.1.2.2 (hall 9 rfl))⟩, hF.1.2.1.1.1.1.1.1⟩, ⟨⟨hF.1.2.1.1.1.1.1.2, hF.1.2.1.1.1.1.2.1⟩, hF.1.2.1.1.1.1.2.2⟩⟩, ⟨⟨⟨hF.1.2.1.1.1.2.1.1, hF.1.2.1.1.1.2.1.2⟩, hF.1.2.1.1.1.2.2⟩, ⟨hF.1.2.1.1.2.1.1.1, hF.1.2.1.1.2.1.1.2⟩⟩⟩, hp⟩
      refine allU_cons ?_ ?_
      · rintro L e w hLi hb hcl ⟨c_g10_0, c_g11_1, hF, hp⟩
        refine k_call [.agg (ints .u64 r31).toArray, .agg (ints .u64 r32).toArray] rfl (by kernel_rfl) (args2 hF.1.2.1.1.2.2.1.2 hF.1.2.1.1.2.2.2) (postilionref04_Times_ok k r31 r32 lr310 lr320 _ (hp.toR (fun _ h => by cases h)) qr50) ?_
        rintro _ w' ⟨_, rfl, rfl, lr500, hpc⟩
        refine ⟨_, rfl, .inr (.of_below hpc.chg.to_below), ?_⟩; have hp := hp.below hpc.chg.to_below; clear hpc
        exact k_done ⟨c_g10_0, c_g11_1, ⟨⟨⟨⟨⟨(fun _ => lr500), hF.1.1.1.1.2⟩, hF.1.1.1.2⟩, hF.1.1.2⟩, ⟨⟨hF.1.2.1.1, (fun _ => rfl)⟩, hF.1.2.2⟩⟩, hF.2⟩, hp⟩
      refine allU_cons ?_ ?_
      · rintro L e w hLi hb hcl ⟨c_g10_0, c_g11_1, hF, hp⟩
        refine tk_ef ?_
        refine k_loadA (n := 4) (xs := ints .u64 r35) 0 rfl (by kernel_rfl) (by kernel_rfl) hF.1.2.1.1.2.2.1.1 (hp.get (j := 12) rfl) rfl rfl ((ints_length _ _).trans lr350) (fun m v hm => by rw [Nat.zero_add]; exact hm) ?_
        exact k_done ⟨c_g10_0, c_g11_1, ⟨⟨hF.1.1, ⟨hF.1.2.1, ⟨(fun _ => rfl), hF.1.2.2.2⟩⟩⟩, hF.2⟩, hp⟩
      refine allU_cons ?_ ?_
      · rintro L e w hLi hb hcl ⟨c_g10_0, c_g11_1, hF, hp⟩
        refine tk_ef ?_
        refine k_loadA (n := 4) (xs := ints .u64 r31) 0 rfl (by kernel_rfl) (by kernel_rfl) hF.1.2.1.1.2.1.2 (hp.get (j := 10) rfl) rfl rfl ((ints_length _ _).trans lr310) (fun m v hm => by rw [Nat.zero_add]; exact hm) ?_
        exact k_done ⟨c_g10_0, c_g11_1, ⟨⟨hF.1.1, ⟨hF.1.2.1, ⟨hF.1.2.2.1, (fun _ => rfl)⟩⟩⟩, hF.2⟩, hp⟩
      refine allU_cons ?_ ?_
      · rintro L e w hLi hb hcl ⟨c_g10_0, c_g11_1, hF, hp⟩
        refine k_call [.int .u64 121665] rfl (by kernel_rfl) (args1 rfl) (postilionref04_Small_ok 121665  _ (hp.toR (fun _ h => by cases h)) qr51) ?_
        rintro _ w' ⟨_, rfl, rfl, lr510, hpc⟩
        refine ⟨_, rfl, .inr (.of_below hpc.chg.to_below), ?_⟩; have hp := hp.below hpc.chg.to_below; clear hpc
        exact k_done ⟨c_g10_0, c_g11_1, ⟨⟨⟨⟨⟨hF.1.1.1.1.1, (fun _ => lr510)⟩, hF.1.1.1.2⟩, hF.1.1.2⟩, hF.1.2⟩, ⟨⟨⟨⟨(fun _ => rfl), hF.2.1.1.1.2⟩, hF.2.1.1.2⟩, hF.2.1.2⟩, hF.2.2⟩⟩, hp⟩
      refine allU_cons ?_ ?_
      · rintro L e w hLi hb hcl ⟨c_g10_0, c_g11_1, hF, hp⟩
        refine tk_ef ?_
        refine k_loadA (n := 4) (xs := ints .u64 r35) 0 rfl (by kernel_rfl) (by kernel_rfl) hF.1.2.1.1.2.2.1.1 (hp.get (j := 12) rfl) rfl rfl ((ints_length _ _).trans lr350) (fun m v hm => by rw [Nat.zero_add]; exact hm) ?_
        exact k_done ⟨c_g10_0, c_g11_1, ⟨hF.1, ⟨⟨⟨⟨hF.2.1.1.1.1, (fun _ => rfl)⟩, hF.2.1.1.2⟩, hF.2.1.2⟩, hF.2.2⟩⟩, hp⟩
      refine allU_cons ?_ ?_
      · rintro L e w hLi hb hcl ⟨c_g10_0, c_g11_1, hF, hp⟩
        have hL5 := hb 5 (by kernel_rfl)
        have hL6 := hb 6 (by kernel_rfl)
        have lr510 := hF.1.1.1.1.2 hL5
        refine k_call [.agg (ints .u64 r51).toArray, .agg (ints .u64 r35).toArray] rfl (by kernel_rfl) (args2 (hF.2.1.1.1.1 hL5) (hF.2.1.1.1.2 hL6)) (postilionref04_Times_ok k r51 r35 lr510 lr350 _ (hp.toR (fun _ h => by cases h)) qr52) ?_
        rintro _ w' ⟨_, rfl, rfl, lr520, hpc⟩
        refine ⟨_, rfl, .inr (.of_below hpc.chg.to_below), ?_⟩; have hp := hp.below hpc.chg.to_below; clear hpc
        exact k_done ⟨c_g10_0, c_g11_1, ⟨⟨⟨⟨hF.1.1.1.1, (fun _ => lr520)⟩, hF.1.1.2⟩, hF.1.2⟩, ⟨⟨⟨hF.2.1.1.1, (fun _ => rfl)⟩, hF.2.1.2⟩, hF.2.2⟩⟩, hp⟩
      refine allU_cons ?_ ?_
      · rintro L e w hLi hb hcl ⟨c_g10_0, c_g11_1, hF, hp⟩
        have hL4 := hb 4 (by kernel_rfl)
        have hL7 := hb 7 (by kernel_rfl)
        have lr520 := hF.1.1.1.2 hL7
        refine k_call [.agg (ints .u64 r31).toArray, .agg (ints .u64 r52).toArray] rfl (by kernel_rfl) (args2 (hF.1.2.2.2 hL4) (hF.2.1.1.2 hL7)) (postilionref04_Plus_ok k r31 r52 lr310 lr520 _ (hp.toR (fun _ h => by cases h)) qr53) ?_
        rintro _ w' ⟨_, rfl, rfl, lr530, hpc⟩
        refine ⟨_, rfl, .inr (.of_below hpc.chg.to_below), ?_⟩; have hp := hp.below hpc.chg.to_below; clear hpc
        exact k_done ⟨c_g10_0, c_g11_1, ⟨⟨⟨hF.1.1.1, ⟨(fun _ => lr530), hF.1.1.2.2⟩⟩, hF.1.2⟩, ⟨⟨hF.2.1.1, ⟨(fun _ => rfl), hF.2.1.2.2⟩⟩, hF.2.2⟩⟩, hp⟩
      refine allU_cons ?_ ?_
      · rintro L e w hLi hb hcl ⟨c_g10_0, c_g11_1, hF, hp⟩
        have hL3 := hb 3 (by kernel_rfl)
        have hL8 := hb 8 (by kernel_rfl)
        have lr530 := hF.1.1.2.1 hL8
        refine k_call [.agg (ints .u64 r35).toArray, .agg (ints .u64 r53).toArray] rfl (by kernel_rfl) (args2 (hF.1.2.2.1 hL3) (hF.2.1.2.1 hL8)) (postilionref04_Times_ok k r35 r53 lr350 lr530 _ (hp.toR (fun _ h => by cases h)) qr54) ?_
        rintro _ w' ⟨_, rfl, rfl, lr540, hpc⟩
        refine ⟨_, rfl, .inr (.of_below hpc.chg.to_below), ?_⟩; have hp := hp.below hpc.chg.to_below; clear hpc
        exact k_done ⟨c_g10_0, c_g11_1, ⟨⟨⟨hF.1.1.1, ⟨hF.1.1.2.1, (fun _ => lr540)⟩⟩, hF.1.2⟩, ⟨⟨hF.2.1.1, ⟨hF.2.1.2.1, (fun _ => rfl)⟩⟩, hF.2.2⟩⟩, hp⟩
      refine allU_cons ?_ ?_
      · rintro L e w hLi hb hcl ⟨c_g10_0, c_g11_1, hF, hp⟩
        have hL2 := hb 2 (by kernel_rfl)
        have lr500 := hF.1.1.1.1.1 hL2
        have qc_g10_0 := hF.2.2.1.1 hLi
        rw [qc_g10_0] at hp
        refine k_storeA (v := .agg (ints .u64 r50).toArray) 4 0 (r := ⟨g10, 0, ints .u64 m23⟩) (ints .u64 r50) (ints .u64 r50) rfl (n := 4) (by kernel_rfl) hF.1.2.1.1.1.1.2.2 (hF.1.2.1.2 hL2) rfl ((ints_length _ _).trans lr500) (ints_one _ _) hp rfl rfl rfl (Nat.le_of_eq ((Nat.zero_add _).trans ((ints_length _ _).trans lm23).symm)) (setMany_all _ _ (((ints_length _ _).trans lr500).trans ((ints_length _ _).trans lm23).symm)) (by decide) ?_; intro w hp
        exact k_done ⟨r50, c_g11_1, ⟨hF.1, ⟨hF.2.1, ⟨⟨(fun h => nomatch (show true = false from h)), (fun _ => rfl)⟩, hF.2.2.2⟩⟩⟩, hp⟩
      refine allU_cons ?_ allU_nil
      · rintro L e w hLi hb hcl ⟨c_g10_0, c_g11_1, hF, hp⟩
        have hL9 := hb 9 (by kernel_rfl)
        have lr540 := hF.1.1.2.2 hL9
        have qc_g11_1 := hF.2.2.2.1 hLi
        rw [qc_g11_1] at hp
        refine k_storeA (v := .agg (ints .u64 r54).toArray) 5 0 (r := ⟨g11, 0, ints .u64 m24⟩) (ints .u64 r54) (ints .u64 r54) rfl (n := 4) (by kernel_rfl) hF.1.2.1.1.1.2.1.1 (hF.2.1.2.2 hL9) rfl ((ints_length _ _).trans lr540) (ints_one _ _) hp rfl rfl rfl (Nat.le_of_eq ((Nat.zero_add _).trans ((ints_length _ _).trans lm24).symm)) (setMany_all _ _ (((ints_length _ _).trans lr540).trans ((ints_length _ _).trans lm24).symm)) (by decide) ?_; intro w hp
        exact k_done ⟨c_g10_0, r54, ⟨hF.1, ⟨hF.2.1, ⟨hF.2.2.1, ⟨(fun h => nomatch (show true = false from h)), (fun _ => rfl)⟩⟩⟩⟩, hp⟩
    rintro e318 w ⟨hF, hp⟩
    have lr500 := hF.1.1.1.1
    have lr540 := hF.1.1.1.2
    have s2_e318 := hF.1.1.2
    have s4_e318 := hF.1.2.1.1
    have s5_e318 := hF.1.2.1.2
    have s6_e318 := hF.1.2.2
    have s7_e318 := hF.2.1.1.1
    have s8_e318 := hF.2.1.1.2
    have s9_e318 := hF.2.1.2
    have s10_e318 := hF.2.2.1
    have s11_e318 := hF.2.2.2
    clear hF
    refine wseqP (p0 := [1, 1, 1, 1, 1, 1, 0, 1, 0, 0, 1, 0, 0, 1, 1, 1, 1, 1, 1, 1, 1, 0]) (p1 := [1, 1, 1, 1, 1, 1, 0, 1, 0, 0, 1, 0, 0, 1, 1, 1, 1, 1, 1, 1, 1, 1]) rfl rfl rfl ?_
    refine wregionT postilionref03_Mul.o18 (.tp 0 (.tp 1 (.done))) [] rfl rfl (by kernel_rfl) (by kernel_rfl) ?_
    refine k_move (v := .int .u8 x21) rfl s11_e318 ?_
    refine k_bin (X := .int .u8 x21) (Y := .int .u8 1) rfl rfl rfl rfl ?_
    refine k_end ?_; intro e319 qe319
    have s2_e319 : e319 2 = .pointer (some ⟨g1, 0, none⟩) := (congrFun qe319 2).trans s2_e318
    have s4_e319 : e319 4 = .pointer (some ⟨g3, 0, none⟩) := (congrFun qe319 4).trans s4_e318
    have s5_e319 : e319 5 = .pointer (some ⟨g6, 0, none⟩) := (congrFun qe319 5).trans s5_e318
    have s6_e319 : e319 6 = .pointer (some ⟨g10, 0, none⟩) := (congrFun qe319 6).trans s6_e318
    have s7_e319 : e319 7 = .pointer (some ⟨g11, 0, none⟩) := (congrFun qe319 7).trans s7_e318
    have s8_e319 : e319 8 = .pointer (some ⟨g12, 0, none⟩) := (congrFun qe319 8).trans s8_e318
    have s9_e319 : e319 9 = .pointer (some ⟨g13, 0, none⟩) := (congrFun qe319 9).trans s9_e318
    have s10_e319 : e319 10 = .int .i64 y18 := (congrFun qe319 10).trans s10_e318
    have s108_e319 : e319 108 = .bool (x21 == 1) := congrFun qe319 108
    clear qe319
    obtain ⟨r55, qr55, h⟩ := bd_e h
    refine postilionref03_Mul.p4_ok g1 g10 g11 g12 g13 g2 g29 g3 g30 g33 g34 g36 g41 g42 g6 y18 x21 x4 a1 r5 r50 r54 r45 r49 r27 r28 r31 r32 r35 r38 r40 la1 lx4 lr50 lr270 lr280 lr310 lr320 lr350 lr380 lr400 lr450 lr490 lr500 lr540 ?hq0 e319 _ s2_e319 s4_e319 s5_e319 s6_e319 s7_e319 s8_e319 s9_e319 s10_e319 s108_e319 hp qr55
    case hq0 =>
      intro e321 w m56 m57 m58 m59 lm56 lm57 lm58 lm59 s2_e321 s4_e321 s5_e321 s6_e321 s7_e321 s8_e321 s9_e321 s10_e321 hp qq
      rw [qq] at h; clear qq
      exact hQ0 _ _ m56 m57 m58 m59 lm56 lm57 lm58 lm59 s2_e321 s4_e321 s5_e321 s6_e321 s7_e321 s8_e321 s9_e321 s10_e321 (hp.drop (L' := [⟨g1, 0, ints .u8 x4⟩, ⟨g2, 0, ints .u8 (a1.set 31 (bits .and .u8 (a1.getD 31 0) 127))⟩, ⟨g3, 0, ints .u8 (List.replicate 32 (0 : Int))⟩, ⟨g6, 0, ints .u64 r5⟩, ⟨g10, 0, ints .u64 m56⟩, ⟨g11, 0, ints .u64 m57⟩, ⟨g12, 0, ints .u64 m58⟩, ⟨g13, 0, ints .u64 m59⟩]) (sub_pre 8 rfl)) (Option.some.inj h).symm
theorem postilionref03_Mul.p1_ok {w0 : World} {Ws : List Wr} {Q : Exit → Env → World → Prop} (g1 g10 g11 g12 g13 g2 g3 g6 : Nat) (x4 : List Int) (a1 : List Int) (r5 : List Int) (la1 : a1.length = 32) (lx4 : x4.length = 32) (lr50 : r5.length = 4) {r : List Int × List Int × List Int × List Int} (hQ0 : ∀ (e' : Env) (w' : World) (z0 : List Int) (z1 : List Int) (z2 : List Int) (z3 : List Int), z0.length = 4 → z1.length = 4 → z2.length = 4 → z3.length = 4 → e' 4 = .pointer (some ⟨g3, 0, none⟩) → e' 6 = .pointer (some ⟨g10, 0, none⟩) → e' 7 = .pointer (some ⟨g11, 0, none⟩) → Hp w0 Ws w' [⟨g1, 0, ints .u8 x4⟩, ⟨g2, 0, ints .u8 (a1.set 31 (bits .and .u8 (a1.getD 31 0) 127))⟩, ⟨g3, 0, ints .u8 (List.replicate 32 (0 : Int))⟩, ⟨g6, 0, ints .u64 r5⟩, ⟨g10, 0, ints .u64 z0⟩, ⟨g11, 0, ints .u64 z1⟩, ⟨g12, 0, ints .u64 z2⟩, ⟨g13, 0, ints .u64 z3⟩] [] → r = (z0, z1, z2, z3) → Q (.exit 0) e' w') : ∀ (k : Nat), ∀ (y14 : List Int) (y15 : List Int) (y16 : List Int) (y17 : List Int) (y18 : Int) (e : Env) (w : World) (ly14 : y14.length = 4) (ly15 : y15.length = 4) (ly16 : y16.length = 4) (ly17 : y17.length = 4) (s2_e : e 2 = .pointer (some ⟨g1, 0, none⟩)) (s4_e : e 4 = .pointer (some ⟨g3, 0, none⟩)) (s5_e : e 5 = .pointer (some ⟨g6, 0, none⟩)) (s6_e : e 6 = .pointer (some ⟨g10, 0, none⟩)) (s7_e : e 7 = .pointer (some ⟨g11, 0, none⟩)) (s8_e : e 8 = .pointer (some ⟨g12, 0, none⟩)) (s9_e : e 9 = .pointer (some ⟨g13, 0, none⟩)) (s10_e : e 10 = .int .i64 y18) (hp : Hp w0 Ws w [⟨g1, 0, ints .u8 x4⟩, ⟨g2, 0, ints .u8 (a1.set 31 (bits .and .u8 (a1.getD 31 0) 127))⟩, ⟨g3, 0, ints .u8 (List.replicate 32 (0 : Int))⟩, ⟨g6, 0, ints .u64 r5⟩, ⟨g10, 0, ints .u64 y14⟩, ⟨g11, 0, ints .u64 y15⟩, ⟨g12, 0, ints .u64 y16⟩, ⟨g13, 0, ints .u64 y17⟩] []) (h : postilionref03_Mul.p1 k x4 r5 y14 y15 y16 y17 y18 = some r), Lp Try.prog Try.f15.ntmps (at_ (fbody Try.f15) [1, 1, 1, 1, 1, 1, 0, 1, 0, 0]) Q k e w := by
  intro k
  induction k with
  | zero => intro y14 y15 y16 y17 y18 e w ly14 ly15 ly16 ly17 s2_e s4_e s5_e s6_e s7_e s8_e s9_e s10_e hp h; cases h
  | succ k ih =>
    intro y14 y15 y16 y17 y18 e w ly14 ly15 ly16 ly17 s2_e s4_e s5_e s6_e s7_e s8_e s9_e s10_e hp h
    unfold postilionref03_Mul.p1 at h
    show Wp _ _ _ _ _ _
    refine wseqP (p0 := [1, 1, 1, 1, 1, 1, 0, 1, 0, 0, 0]) (p1 := [1, 1, 1, 1, 1, 1, 0, 1, 0, 0, 1]) rfl rfl rfl ?_
    refine wseqP (p0 := [1, 1, 1, 1, 1, 1, 0, 1, 0, 0, 0, 0]) (p1 := [1, 1, 1, 1, 1, 1, 0, 1, 0, 0, 0, 1]) rfl rfl rfl ?_
    refine wregionT postilionref03_Mul.o8 (.tp 0 (.tp 1 (.done))) [] rfl rfl (by kernel_rfl) (by kernel_rfl) ?_
    refine k_move (v := .int .i64 y18) rfl s10_e ?_
    refine k_bin (X := .int .i64 y18) (Y := .int .i64 0) rfl rfl rfl rfl ?_
    refine k_end ?_; intro e308 qe308
    have s2_e308 : e308 2 = .pointer (some ⟨g1, 0, none⟩) := (congrFun qe308 2).trans s2_e
    have s4_e308 : e308 4 = .pointer (some ⟨g3, 0, none⟩) := (congrFun qe308 4).trans s4_e
    have s5_e308 : e308 5 = .pointer (some ⟨g6, 0, none⟩) := (congrFun qe308 5).trans s5_e
    have s6_e308 : e308 6 = .pointer (some ⟨g10, 0, none⟩) := (congrFun qe308 6).trans s6_e
    have s7_e308 : e308 7 = .pointer (some ⟨g11, 0, none⟩) := (congrFun qe308 7).trans s7_e
    have s8_e308 : e308 8 = .pointer (some ⟨g12, 0, none⟩) := (congrFun qe308 8).trans s8_e
    have s9_e308 : e308 9 = .pointer (some ⟨g13, 0, none⟩) := (congrFun qe308 9).trans s9_e
    have s10_e308 : e308 10 = .int .i64 y18 := (congrFun qe308 10).trans s10_e
    have s39_e308 : e308 39 = .bool (decide (y18 ≥ 0)) := congrFun qe308 39
    clear qe308
    refine wcondP (p0 := [1, 1, 1, 1, 1, 1, 0, 1, 0, 0, 0, 1, 0]) (p1 := [1, 1, 1, 1, 1, 1, 0, 1, 0, 0, 0, 1, 1]) (t := (decide (y18 ≥ 0))) rfl rfl rfl (by decide) s39_e308 (fun hb => ?_) (fun hb => ?_)
    · replace h := br_t hb h
      refine wskip rfl ?_
      refine wseqP (p0 := [1, 1, 1, 1, 1, 1, 0, 1, 0, 0, 1, 0]) (p1 := [1, 1, 1, 1, 1, 1, 0, 1, 0, 0, 1, 1]) rfl rfl rfl ?_
      obtain ⟨r60, qr60, h⟩ := bd_e h
      refine postilionref03_Mul.p2_ok k g1 g10 g11 g12 g13 g2 g3 g6 y18 x4 a1 r5 y14 y15 y16 y17 ly14 ly15 ly16 ly17 la1 lx4 lr50 ?hq0 e308 _ s2_e308 s4_e308 s5_e308 s6_e308 s7_e308 s8_e308 s9_e308 s10_e308 hp qr60
      case hq0 =>
        intro e322 w m61 m62 m63 m64 lm61 lm62 lm63 lm64 s2_e322 s4_e322 s5_e322 s6_e322 s7_e322 s8_e322 s9_e322 s10_e322 hp qq
        rw [qq] at h; clear qq
        refine wregionT postilionref03_Mul.o20 (.tp 0 (.tp 1 (.tp 2 (.done)))) [] rfl rfl (by kernel_rfl) (by kernel_rfl) ?_
        refine k_move (v := .int .i64 y18) rfl s10_e322 ?_
        refine k_bin (X := .int .i64 y18) (Y := .int .i64 1) rfl rfl rfl rfl ?_
        refine k_assign (v := .int .i64 (IntKind.i64.wrap (y18 - 1))) rfl rfl ?_
        refine k_end ?_; intro e323 qe323
        have s2_e323 : e323 2 = .pointer (some ⟨g1, 0, none⟩) := (congrFun qe323 2).trans s2_e322
        have s4_e323 : e323 4 = .pointer (some ⟨g3, 0, none⟩) := (congrFun qe323 4).trans s4_e322
        have s5_e323 : e323 5 = .pointer (some ⟨g6, 0, none⟩) := (congrFun qe323 5).trans s5_e322
        have s6_e323 : e323 6 = .pointer (some ⟨g10, 0, none⟩) := (congrFun qe323 6).trans s6_e322
        have s7_e323 : e323 7 = .pointer (some ⟨g11, 0, none⟩) := (congrFun qe323 7).trans s7_e322
        have s8_e323 : e323 8 = .pointer (some ⟨g12, 0, none⟩) := (congrFun qe323 8).trans s8_e322
        have s9_e323 : e323 9 = .pointer (some ⟨g13, 0, none⟩) := (congrFun qe323 9).trans s9_e322
        obtain ⟨x65, qx65, h⟩ := lt_e h
        have s10_e323 : e323 10 = .int .i64 x65 := (congrFun qe323 10).trans (congrArg (Value.int .i64) qx65.symm)
        clear qe323
        exact ih m61 m62 m63 m64 x65 _ _ lm61 lm62 lm63 lm64 s2_e323 s4_e323 s5_e323 s6_e323 s7_e323 s8_e323 s9_e323 s10_e323 (hp.drop (L' := [⟨g1, 0, ints .u8 x4⟩, ⟨g2, 0, ints .u8 (a1.set 31 (bits .and .u8 (a1.getD 31 0) 127))⟩, ⟨g3, 0, ints .u8 (List.replicate 32 (0 : Int))⟩, ⟨g6, 0, ints .u64 r5⟩, ⟨g10, 0, ints .u64 m61⟩, ⟨g11, 0, ints .u64 m62⟩, ⟨g12, 0, ints .u64 m63⟩, ⟨g13, 0, ints .u64 m64⟩]) (List.Sublist.refl _)) h
    · replace h := br_f hb h
      refine wexit rfl ?_
      exact hQ0 _ _ y14 y15 y16 y17 ly14 ly15 ly16 ly17 s4_e308 s6_e308 s7_e308 (hp.drop (L' := [⟨g1, 0, ints .u8 x4⟩, ⟨g2, 0, ints .u8 (a1.set 31 (bits .and .u8 (a1.getD 31 0) 127))⟩, ⟨g3, 0, ints .u8 (List.replicate 32 (0 : Int))⟩, ⟨g6, 0, ints .u64 r5⟩, ⟨g10, 0, ints .u64 y14⟩, ⟨g11, 0, ints .u64 y15⟩, ⟨g12, 0, ints .u64 y16⟩, ⟨g13, 0, ints .u64 y17⟩]) (List.Sublist.refl _)) (Option.some.inj h).symm
set_option maxHeartbeats 4000000 in
theorem postilionref03_Mul_ok (k : Nat) (a0 : List Int) (a1 : List Int) (la0 : a0.length = 32) (la1 : a1.length = 32) (w0 : World) (hp : Hp w0 [] w0 [] []) {r : List Int} (h : postilionref03_Mul.f k a0 a1 = some r) :
    Calls Try.prog 15 [.agg (ints .u8 a0).toArray, .agg (ints .u8 a1).toArray].toArray w0 fun x w' => ∃ v, x = .returned v ∧ v = .agg (ints .u8 r).toArray ∧ r.length = 32 ∧ Hp w0 [] w' [] [] := by
  refine calls_inP Try.func15 rfl (Nat.le_of_ble_eq_true (by kernel_rfl)) (by kernel_rfl) ?_
  intro e0 qe0
  have s0_e0 : e0 0 = .agg (ints .u8 a0).toArray := congrFun qe0 0
  have s1_e0 : e0 1 = .agg (ints .u8 a1).toArray := congrFun qe0 1
  clear qe0
  unfold postilionref03_Mul.f at h
  refine wseqP (p0 := [0]) (p1 := [1]) rfl rfl rfl ?_
  refine wregionT postilionref03_Mul.o1 (.ef 0 (.ef 1 (.ef 2 (.done)))) [] rfl rfl (by kernel_rfl) (by kernel_rfl) ?_
  refine k_box (v := .agg (ints .u8 a0).toArray) (ints .u8 a0) rfl s0_e0 rfl hp ?_
  intro g1 w hbg1 hp
  refine k_box (v := .agg (ints .u8 a1).toArray) (ints .u8 a1) rfl s1_e0 rfl hp ?_
  intro g2 w hbg2 hp
  refine k_alloc (ints .u8 (List.replicate 32 (0 : Int))) rfl (by kernel_rfl) hp ?_
  intro g3 w hbg3 hp
  refine k_end ?_; intro e301 qe301
  have s2_e301 : e301 2 = .pointer (some ⟨g1, 0, none⟩) := congrFun qe301 2
  have s3_e301 : e301 3 = .pointer (some ⟨g2, 0, none⟩) := congrFun qe301 3
  have s4_e301 : e301 4 = .pointer (some ⟨g3, 0, none⟩) := congrFun qe301 4
  clear qe301
  refine wseqP (p0 := [1, 0]) (p1 := [1, 1]) rfl rfl rfl ?_
  refine wregionT postilionref03_Mul.o2 (.tp 0 (.tk 1 (.tp 2 (.tp 3 (.ef 4 (.done)))))) [4] rfl rfl (by kernel_rfl) (by kernel_rfl) ?_
  refine k_indexA (n := 32) (s := 1) (j := 0) rfl Try.underlying22 (by kernel_rfl) s2_e301 rfl (by decide) ?_
  refine k_load (j := 0) (v := .int .u8 (a0.getD 0 0)) rfl (by kernel_rfl) rfl (hp.get (j := 0) rfl) rfl rfl (ints_get (Nat.lt_of_lt_of_eq (m := 32) (by decide) (la0).symm)) ?_
  refine k_bin (X := .int .u8 (a0.getD 0 0)) (Y := .int .u8 248) rfl rfl rfl rfl ?_
  refine k_indexA (n := 32) (s := 1) (j := 0) rfl Try.underlying22 (by kernel_rfl) s2_e301 rfl (by decide) ?_
  refine k_store (v := .int .u8 (bits .and .u8 (a0.getD 0 0) 248)) 0 0 (r := ⟨g1, 0, ints .u8 a0⟩) rfl (by kernel_rfl) rfl rfl rfl hp rfl rfl rfl (Nat.lt_of_lt_of_eq (Nat.lt_of_lt_of_eq (m := 32) (by decide) (la0).symm) (ints_length _ _).symm) (by decide) ?_; intro w hp; rw [ints_set] at hp
  refine k_end ?_; intro e302 qe302
  have s2_e302 : e302 2 = .pointer (some ⟨g1, 0, none⟩) := (congrFun qe302 2).trans s2_e301
  have s3_e302 : e302 3 = .pointer (some ⟨g2, 0, none⟩) := (congrFun qe302 3).trans s3_e301
  have s4_e302 : e302 4 = .pointer (some ⟨g3, 0, none⟩) := (congrFun qe302 4).trans s4_e301
  clear qe302
  refine wseqP (p0 := [1, 1, 0]) (p1 := [1, 1, 1]) rfl rfl rfl ?_
  refine wregionT postilionref03_Mul.o3 (.tp 0 (.tk 1 (.tp 2 (.tp 3 (.tp 4 (.ef 5 (.done))))))) [5] rfl rfl (by kernel_rfl) (by kernel_rfl) ?_
  refine k_indexA (n := 32) (s := 1) (j := 31) rfl Try.underlying22 (by kernel_rfl) s2_e302 rfl (by decide) ?_
  refine k_load (j := 31) (v := .int .u8 ((a0.set 0 (bits .and .u8 (a0.getD 0 0) 248)).getD 31 0)) rfl (by kernel_rfl) rfl (hp.get (j := 0) rfl) rfl rfl (ints_get (Nat.lt_of_lt_of_eq (m := 32) (by decide) (List.length_set.trans la0).symm)) ?_
  refine k_bin (X := .int .u8 ((a0.set 0 (bits .and .u8 (a0.getD 0 0) 248)).getD 31 0)) (Y := .int .u8 127) rfl rfl rfl rfl ?_
  refine k_bin (X := .int .u8 (bits .and .u8 ((a0.set 0 (bits .and .u8 (a0.getD 0 0) 248)).getD 31 0) 127)) (Y := .int .u8 64) rfl rfl rfl rfl ?_
  refine k_indexA (n := 32) (s := 1) (j := 31) rfl Try.underlying22 (by kernel_rfl) s2_e302 rfl (by decide) ?_
  refine k_store (v := .int .u8 (bits .or .u8 (bits .and .u8 ((a0.set 0 (bits .and .u8 (a0.getD 0 0) 248)).getD 31 0) 127) 64)) 0 31 (r := ⟨g1, 0, ints .u8 (a0.set 0 (bits .and .u8 (a0.getD 0 0) 248))⟩) rfl (by kernel_rfl) rfl rfl rfl hp rfl rfl rfl (Nat.lt_of_lt_of_eq (Nat.lt_of_lt_of_eq (m := 32) (by decide) (List.length_set.trans la0).symm) (ints_length _ _).symm) (by decide) ?_; intro w hp; rw [ints_set] at hp
  refine k_end ?_; intro e303 qe303
  have s2_e303 : e303 2 = .pointer (some ⟨g1, 0, none⟩) := (congrFun qe303 2).trans s2_e302
  have s3_e303 : e303 3 = .pointer (some ⟨g2, 0, none⟩) := (congrFun qe303 3).trans s3_e302
  have s4_e303 : e303 4 = .pointer (some ⟨g3, 0, none⟩) := (congrFun qe303 4).trans s4_e302
  clear qe303
  obtain ⟨x4, qx4, h⟩ := lt_e h
  have lx4 : x4.length = 32 := (congrArg List.length qx4).trans (List.length_set.trans (List.length_set.trans la0))
  have hp : Hp w0 [] w [⟨g1, 0, ints .u8 x4⟩, ⟨g2, 0, ints .u8 a1⟩, ⟨g3, 0, ints .u8 (List.replicate 32 (0 : Int))⟩] [] := by rw [qx4]; exact hp
  refine wseqP (p0 := [1, 1, 1, 0]) (p1 := [1, 1, 1, 1]) rfl rfl rfl ?_
  refine wregionT postilionref03_Mul.o4 (.tp 0 (.tk 1 (.tp 2 (.tp 3 (.ef 4 (.done)))))) [4] rfl rfl (by kernel_rfl) (by kernel_rfl) ?_
  refine k_indexA (n := 32) (s := 1) (j := 31) rfl Try.underlying22 (by kernel_rfl) s3_e303 rfl (by decide) ?_
  refine k_load (j := 31) (v := .int .u8 (a1.getD 31 0)) rfl (by kernel_rfl) rfl (hp.get (j := 1) rfl) rfl rfl (ints_get (Nat.lt_of_lt_of_eq (m := 32) (by decide) (la1).symm)) ?_
  refine k_bin (X := .int .u8 (a1.getD 31 0)) (Y := .int .u8 127) rfl rfl rfl rfl ?_
  refine k_indexA (n := 32) (s := 1) (j := 31) rfl Try.underlying22 (by kernel_rfl) s3_e303 rfl (by decide) ?_
  refine k_store (v := .int .u8 (bits .and .u8 (a1.getD 31 0) 127)) 1 31 (r := ⟨g2, 0, ints .u8 a1⟩) rfl (by kernel_rfl) rfl rfl rfl hp rfl rfl rfl (Nat.lt_of_lt_of_eq (Nat.lt_of_lt_of_eq (m := 32) (by decide) (la1).symm) (ints_length _ _).symm) (by decide) ?_; intro w hp; rw [ints_set] at hp
  refine k_end ?_; intro e304 qe304
  have s2_e304 : e304 2 = .pointer (some ⟨g1, 0, none⟩) := (congrFun qe304 2).trans s2_e303
  have s3_e304 : e304 3 = .pointer (some ⟨g2, 0, none⟩) := (congrFun qe304 3).trans s3_e303
  have s4_e304 : e304 4 = .pointer (some ⟨g3, 0, none⟩) := (congrFun qe304 4).trans s4_e303
  clear qe304
  refine wseqP (p0 := [1, 1, 1, 1, 0]) (p1 := [1, 1, 1, 1, 1]) rfl rfl rfl ?_
  refine wregionT postilionref03_Mul.o5 (.tk 0 (.ef 1 (.ef 2 (.ef 3 (.done))))) [3] rfl rfl (by kernel_rfl) (by kernel_rfl) ?_
  refine k_loadA (n := 32) (xs := ints .u8 (a1.set 31 (bits .and .u8 (a1.getD 31 0) 127))) 0 rfl (by kernel_rfl) (by kernel_rfl) s3_e304 (hp.get (j := 1) rfl) rfl rfl ((ints_length _ _).trans (List.length_set.trans la1)) (fun m v hm => by rw [Nat.zero_add]; exact hm) ?_
  obtain ⟨r5, qr5, h⟩ := bd_e h
  refine k_call [.agg (ints .u8 (a1.set 31 (bits .and .u8 (a1.getD 31 0) 127))).toArray] rfl (by kernel_rfl) (args1 rfl) (postilionref04_From_ok k (a1.set 31 (bits .and .u8 (a1.getD 31 0) 127)) (List.length_set.trans la1) _ (hp.toR (fun _ h => by cases h)) qr5) ?_
  rintro _ w' ⟨_, rfl, rfl, lr50, hpc⟩
  refine ⟨_, rfl, .inr (.of_below hpc.chg.to_below), ?_⟩; have hp := hp.below hpc.chg.to_below; clear hpc
  refine k_alloc (ints .u64 (List.replicate 4 (0 : Int))) rfl (by kernel_rfl) hp ?_
  intro g6 w hbg6 hp
  refine k_storeA (v := .agg (ints .u64 r5).toArray) 3 0 (r := ⟨g6, 0, ints .u64 (List.replicate 4 (0 : Int))⟩) (ints .u64 r5) (ints .u64 r5) rfl (n := 4) (by kernel_rfl) rfl rfl rfl ((ints_length _ _).trans lr50) (ints_one _ _) hp rfl rfl rfl (Nat.le_of_eq ((Nat.zero_add _).trans ((ints_length _ _).trans List.length_replicate).symm)) (setMany_all _ _ (((ints_length _ _).trans lr50).trans ((ints_length _ _).trans List.length_replicate).symm)) (by decide) ?_; intro w hp
  refine k_end ?_; intro e305 qe305
  have s2_e305 : e305 2 = .pointer (some ⟨g1, 0, none⟩) := (congrFun qe305 2).trans s2_e304
  have s4_e305 : e305 4 = .pointer (some ⟨g3, 0, none⟩) := (congrFun qe305 4).trans s4_e304
  have s5_e305 : e305 5 = .pointer (some ⟨g6, 0, none⟩) := congrFun qe305 5
  clear qe305
  refine wseqP (p0 := [1, 1, 1, 1, 1, 0]) (p1 := [1, 1, 1, 1, 1, 1]) rfl rfl rfl ?_
  obtain ⟨r7, qr7, h⟩ := bd_e h
  obtain ⟨r8, qr8, h⟩ := bd_e h
  obtain ⟨r9, qr9, h⟩ := bd_e h
  refine wcut (fun e306 w2 => ∃ g10 g11 g12 g13 : Nat, ((((r7.length = 4 ∧ r8.length = 4) ∧ r9.length = 4) ∧ (e306 2 = .pointer (some ⟨g1, 0, none⟩) ∧ e306 4 = .pointer (some ⟨g3, 0, none⟩))) ∧ (((e306 5 = .pointer (some ⟨g6, 0, none⟩) ∧ e306 6 = .pointer (some ⟨g10, 0, none⟩)) ∧ e306 7 = .pointer (some ⟨g11, 0, none⟩)) ∧ (e306 8 = .pointer (some ⟨g12, 0, none⟩) ∧ e306 9 = .pointer (some ⟨g13, 0, none⟩)))) ∧ Hp w0 [] w2 [⟨g1, 0, ints .u8 x4⟩, ⟨g2, 0, ints .u8 (a1.set 31 (bits .and .u8 (a1.getD 31 0) 127))⟩, ⟨g3, 0, ints .u8 (List.replicate 32 (0 : Int))⟩, ⟨g6, 0, ints .u64 r5⟩, ⟨g10, 0, ints .u64 r7⟩, ⟨g11, 0, ints .u64 r8⟩, ⟨g12, 0, ints .u64 r5⟩, ⟨g13, 0, ints .u64 r9⟩] []) ?_ ?_
  rotate_left
  · refine wregionM postilionref03_Mul.o6 (.rest 0 12) [8, 9, 10, 11] [(0, 4095, 4095), (1, 4095, 4095), (0, 4095, 4095), (2, 4095, 4095), (0, 4095, 4095), (0, 4095, 4095), (0, 4095, 4095), (0, 4095, 4095), (249, 4095, 4095), (499, 4095, 4095), (1015, 4095, 4095), (2047, 4095, 4095)] rfl rfl (by kernel_rfl) (by kernel_rfl) (Nat.le_of_ble_eq_true (by kernel_rfl)) (by kernel_rfl) (by kernel_rfl) (by kernel_rfl) ?_
    have hp := hp.drew
    refine k_rest [0, 1, 2, 3, 4, 5, 6, 7, 8, 9, 10, 11] (fun L e w => ∃ g10 g11 g12 g13 : Nat, ∃ c_g10_0 c_g11_1 c_g12_2 c_g13_3 : List Int, ((((((L 0 = true → r7.length = 4) ∧ (L 1 = true → r8.length = 4)) ∧ (L 3 = true → r9.length = 4)) ∧ ((((e 2 = .pointer (some ⟨g1, 0, none⟩) ∧ e 4 = .pointer (some ⟨g3, 0, none⟩)) ∧ e 5 = .pointer (some ⟨g6, 0, none⟩)) ∧ (L 0 = true → e 34 = .agg (ints .u64 r7).toArray)) ∧ (L 1 = true → e 35 = .agg (ints .u64 r8).toArray))) ∧ ((((L 2 = true → e 36 = .agg (ints .u64 r5).toArray) ∧ (L 3 = true → e 37 = .agg (ints .u64 r9).toArray)) ∧ (L 4 = true → e 6 = .pointer (some ⟨g10, 0, none⟩))) ∧ (((L 5 = true → e 7 = .pointer (some ⟨g11, 0, none⟩)) ∧ (L 6 = true → e 8 = .pointer (some ⟨g12, 0, none⟩))) ∧ (L 7 = true → e 9 = .pointer (some ⟨g13, 0, none⟩))))) ∧ (((((L 4 = false → c_g10_0 = ([] : List Int)) ∧ (L 8 = false → L 4 = true → c_g10_0 = (List.replicate 4 (0 : Int)))) ∧ (L 8 = true → c_g10_0 = r7)) ∧ (((L 5 = false → c_g11_1 = ([] : List Int)) ∧ (L 9 = false → L 5 = true → c_g11_1 = (List.replicate 4 (0 : Int)))) ∧ (L 9 = true → c_g11_1 = r8))) ∧ ((((L 6 = false → c_g12_2 = ([] : List Int)) ∧ (L 10 = false → L 6 = true → c_g12_2 = (List.replicate 4 (0 : Int)))) ∧ (L 10 = true → c_g12_2 = r5)) ∧ (((L 7 = false → c_g13_3 = ([] : List Int)) ∧ (L 11 = false → L 7 = true → c_g13_3 = (List.replicate 4 (0 : Int)))) ∧ (L 11 = true → c_g13_3 = r9))))) ∧ Hp w0 [] w [⟨g1, 0, ints .u8 x4⟩, ⟨g2, 0, ints .u8 (a1.set 31 (bits .and .u8 (a1.getD 31 0) 127))⟩, ⟨g3, 0, ints .u8 (List.replicate 32 (0 : Int))⟩, ⟨g6, 0, ints .u64 r5⟩, ⟨g10, 0, ints .u64 c_g10_0⟩, ⟨g11, 0, ints .u64 c_g11_1⟩, ⟨g12, 0, ints .u64 c_g12_2⟩, ⟨g13, 0, ints .u64 c_g13_3⟩] []) (by kernel_rfl) (by kernel_rfl) ?_ ?_ ?_
    have hp := hp.free1 0 0
    have hp := hp.free1 0 0
    have hp := hp.free1 0 0
    have hp := hp.free1 0 0
    · exact ⟨0, 0, 0, 0, ([] : List Int), ([] : List Int), ([] : List Int), ([] : List Int), ⟨⟨⟨⟨⟨(fun h => absurd h (by decide)), (fun h => absurd h (by decide))⟩, (fun h => absurd h (by decide))⟩, ⟨⟨⟨⟨s2_e305, s4_e305⟩, s5_e305⟩, (fun h => absurd h (by decide))⟩, (fun h => absurd h (by decide))⟩⟩, ⟨⟨⟨(fun h => absurd h (by decide)), (fun h => absurd h (by decide))⟩, (fun h => absurd h (by decide))⟩, ⟨⟨(fun h => absurd h (by decide)), (fun h => absurd h (by decide))⟩, (fun h => absurd h (by decide))⟩⟩⟩, ⟨⟨⟨⟨(fun _ => rfl), (fun _ h => absurd h (by decide))⟩, (fun h => absurd h (by decide))⟩, ⟨⟨(fun _ => rfl), (fun _ h => absurd h (by decide))⟩, (fun h => absurd h (by decide))⟩⟩, ⟨⟨⟨(fun _ => rfl), (fun _ h => absurd h (by decide))⟩, (fun h => absurd h (by decide))⟩, ⟨⟨(fun _ => rfl), (fun _ h => absurd h (by decide))⟩, (fun h => absurd h (by decide))⟩⟩⟩⟩, hp⟩
    · rintro L e w hall ⟨g10, g11, g12, g13, c_g10_0, c_g11_1, c_g12_2, c_g13_3, hF, hp⟩
      have qc_g10_0 := hF.2.1.1.2 (hall 8 rfl)
      rw [qc_g10_0] at hp
      have qc_g11_1 := hF.2.1.2.2 (hall 9 rfl)
      rw [qc_g11_1] at hp
      have qc_g12_2 := hF.2.2.1.2 (hall 10 rfl)
      rw [qc_g12_2] at hp
      have qc_g13_3 := hF.2.2.2.2 (hall 11 rfl)
      rw [qc_g13_3] at hp
      exact onlyN_i ⟨g10, g11, g12, g13, ⟨⟨⟨⟨(hF.1.1.1.1.1 (hall 0 rfl)), (hF.1.1.1.1.2 (hall 1 rfl))⟩, (hF.1.1.1.2 (hall 3 rfl))⟩, ⟨hF.1.1.2.1.1.1.1, hF.1.1.2.1.1.1.2⟩⟩, ⟨⟨⟨hF.1.1.2.1.1.2, (hF.1.2.1.2 (hall 4 rfl))⟩, (hF.1.2.2.1.1 (hall 5 rfl))⟩, ⟨(hF.1.2.2.1.2 (hall 6 rfl)), (hF.1.2.2.2 (hall 7 rfl))⟩⟩⟩, hp⟩
    refine allU_cons ?_ ?_
    · rintro L e w hLi hb hcl ⟨g10, g11, g12, g13, c_g10_0, c_g11_1, c_g12_2, c_g13_3, hF, hp⟩
      refine k_call [.int .u64 1] rfl (by kernel_rfl) (args1 rfl) (postilionref04_Small_ok 1  _ (hp.toR (fun _ h => by cases h)) qr7) ?_
      rintro _ w' ⟨_, rfl, rfl, lr70, hpc⟩
      refine ⟨_, rfl, .inr (.of_below hpc.chg.to_below), ?_⟩; have hp := hp.below hpc.chg.to_below; clear hpc
      exact k_done ⟨g10, g11, g12, g13, c_g10_0, c_g11_1, c_g12_2, c_g13_3, ⟨⟨⟨⟨⟨(fun _ => lr70), hF.1.1.1.1.2⟩, hF.1.1.1.2⟩, ⟨⟨hF.1.1.2.1.1, (fun _ => rfl)⟩, hF.1.1.2.2⟩⟩, hF.1.2⟩, hF.2⟩, hp⟩
    refine allU_cons ?_ ?_
    · rintro L e w hLi hb hcl ⟨g10, g11, g12, g13, c_g10_0, c_g11_1, c_g12_2, c_g13_3, hF, hp⟩
      refine k_call [.int .u64 0] rfl (by kernel_rfl) (args1 rfl) (postilionref04_Small_ok 0  _ (hp.toR (fun _ h => by cases h)) qr8) ?_
      rintro _ w' ⟨_, rfl, rfl, lr80, hpc⟩
      refine ⟨_, rfl, .inr (.of_below hpc.chg.to_below), ?_⟩; have hp := hp.below hpc.chg.to_below; clear hpc
      exact k_done ⟨g10, g11, g12, g13, c_g10_0, c_g11_1, c_g12_2, c_g13_3, ⟨⟨⟨⟨⟨hF.1.1.1.1.1, (fun _ => lr80)⟩, hF.1.1.1.2⟩, ⟨hF.1.1.2.1, (fun _ => rfl)⟩⟩, hF.1.2⟩, hF.2⟩, hp⟩
    refine allU_cons ?_ ?_
    · rintro L e w hLi hb hcl ⟨g10, g11, g12, g13, c_g10_0, c_g11_1, c_g12_2, c_g13_3, hF, hp⟩
      refine tk_ef ?_
      refine k_loadA (n := 4) (xs := ints .u64 r5) 0 rfl (by kernel_rfl) (by kernel_rfl) hF.1.1.2.1.1.2 (hp.get (j := 3) rfl) rfl rfl ((ints_length _ _).trans lr50) (fun m v hm => by rw [Nat.zero_add]; exact hm) ?_
      exact k_done ⟨g10, g11, g12, g13, c_g10_0, c_g11_1, c_g12_2, c_g13_3, ⟨⟨hF.1.1, ⟨⟨⟨(fun _ => rfl), hF.1.2.1.1.2⟩, hF.1.2.1.2⟩, hF.1.2.2⟩⟩, hF.2⟩, hp⟩
    refine allU_cons ?_ ?_
    · rintro L e w hLi hb hcl ⟨g10, g11, g12, g13, c_g10_0, c_g11_1, c_g12_2, c_g13_3, hF, hp⟩
      refine k_call [.int .u64 1] rfl (by kernel_rfl) (args1 rfl) (postilionref04_Small_ok 1  _ (hp.toR (fun _ h => by cases h)) qr9) ?_
      rintro _ w' ⟨_, rfl, rfl, lr90, hpc⟩
      refine ⟨_, rfl, .inr (.of_below hpc.chg.to_below), ?_⟩; have hp := hp.below hpc.chg.to_below; clear hpc
      exact k_done ⟨g10, g11, g12, g13, c_g10_0, c_g11_1, c_g12_2, c_g13_3, ⟨⟨⟨⟨hF.1.1.1.1, (fun _ => lr90)⟩, hF.1.1.2⟩, ⟨⟨⟨hF.1.2.1.1.1, (fun _ => rfl)⟩, hF.1.2.1.2⟩, hF.1.2.2⟩⟩, hF.2⟩, hp⟩
    refine allU_cons ?_ ?_
    · rintro L e w hLi hb hcl ⟨g10, g11, g12, g13, c_g10_0, c_g11_1, c_g12_2, c_g13_3, hF, hp⟩
      have qc_g10_0 := hF.2.1.1.1.1 hLi
      rw [qc_g10_0] at hp
      refine k_allocAt 4 (ints .u64 (List.replicate 4 (0 : Int))) rfl (by kernel_rfl) hp ?_
      intro g10 w hbg10 hp
      exact k_done ⟨g10, g11, g12, g13, (List.replicate 4 (0 : Int)), c_g11_1, c_g12_2, c_g13_3, ⟨⟨hF.1.1, ⟨⟨hF.1.2.1.1, (fun _ => rfl)⟩, hF.1.2.2⟩⟩, ⟨⟨⟨⟨(fun h => nomatch (show true = false from h)), (fun _ _ => rfl)⟩, (fun h => absurd (hLi.symm.trans (hcl 8 4 (by kernel_rfl) h)) (by decide))⟩, hF.2.1.2⟩, hF.2.2⟩⟩, hp⟩
    refine allU_cons ?_ ?_
    · rintro L e w hLi hb hcl ⟨g10, g11, g12, g13, c_g10_0, c_g11_1, c_g12_2, c_g13_3, hF, hp⟩
      have qc_g11_1 := hF.2.1.2.1.1 hLi
      rw [qc_g11_1] at hp
      refine k_allocAt 5 (ints .u64 (List.replicate 4 (0 : Int))) rfl (by kernel_rfl) hp ?_
      intro g11 w hbg11 hp
      exact k_done ⟨g10, g11, g12, g13, c_g10_0, (List.replicate 4 (0 : Int)), c_g12_2, c_g13_3, ⟨⟨hF.1.1, ⟨hF.1.2.1, ⟨⟨(fun _ => rfl), hF.1.2.2.1.2⟩, hF.1.2.2.2⟩⟩⟩, ⟨⟨hF.2.1.1, ⟨⟨(fun h => nomatch (show true = false from h)), (fun _ _ => rfl)⟩, (fun h => absurd (hLi.symm.trans (hcl 9 5 (by kernel_rfl) h)) (by decide))⟩⟩, hF.2.2⟩⟩, hp⟩
    refine allU_cons ?_ ?_
    · rintro L e w hLi hb hcl ⟨g10, g11, g12, g13, c_g10_0, c_g11_1, c_g12_2, c_g13_3, hF, hp⟩
      have qc_g12_2 := hF.2.2.1.1.1 hLi
      rw [qc_g12_2] at hp
      refine k_allocAt 6 (ints .u64 (List.replicate 4 (0 : Int))) rfl (by kernel_rfl) hp ?_
      intro g12 w hbg12 hp
      exact k_done ⟨g10, g11, g12, g13, c_g10_0, c_g11_1, (List.replicate 4 (0 : Int)), c_g13_3, ⟨⟨hF.1.1, ⟨hF.1.2.1, ⟨⟨hF.1.2.2.1.1, (fun _ => rfl)⟩, hF.1.2.2.2⟩⟩⟩, ⟨hF.2.1, ⟨⟨⟨(fun h => nomatch (show true = false from h)), (fun _ _ => rfl)⟩, (fun h => absurd (hLi.symm.trans (hcl 10 6 (by kernel_rfl) h)) (by decide))⟩, hF.2.2.2⟩⟩⟩, hp⟩
    refine allU_cons ?_ ?_
    · rintro L e w hLi hb hcl ⟨g10, g11, g12, g13, c_g10_0, c_g11_1, c_g12_2, c_g13_3, hF, hp⟩
      have qc_g13_3 := hF.2.2.2.1.1 hLi
      rw [qc_g13_3] at hp
      refine k_allocAt 7 (ints .u64 (List.replicate 4 (0 : Int))) rfl (by kernel_rfl) hp ?_
      intro g13 w hbg13 hp
      exact k_done ⟨g10, g11, g12, g13, c_g10_0, c_g11_1, c_g12_2, (List.replicate 4 (0 : Int)), ⟨⟨hF.1.1, ⟨hF.1.2.1, ⟨hF.1.2.2.1, (fun _ => rfl)⟩⟩⟩, ⟨hF.2.1, ⟨hF.2.2.1, ⟨⟨(fun h => nomatch (show true = false from h)), (fun _ _ => rfl)⟩, (fun h => absurd (hLi.symm.trans (hcl 11 7 (by kernel_rfl) h)) (by decide))⟩⟩⟩⟩, hp⟩
    refine allU_cons ?_ ?_
    · rintro L e w hLi hb hcl ⟨g10, g11, g12, g13, c_g10_0, c_g11_1, c_g12_2, c_g13_3, hF, hp⟩
      have hL0 := hb 0 (by kernel_rfl)
      have hL4 := hb 4 (by kernel_rfl)
      have lr70 := hF.1.1.1.1.1 hL0
      have qc_g10_0 := hF.2.1.1.1.2 hLi hL4
      rw [qc_g10_0] at hp
      refine k_storeA (v := .agg (ints .u64 r7).toArray) 4 0 (r := ⟨g10, 0, ints .u64 (List.replicate 4 (0 : Int))⟩) (ints .u64 r7) (ints .u64 r7) rfl (n := 4) (by kernel_rfl) (hF.1.2.1.2 hL4) (hF.1.1.2.1.2 hL0) rfl ((ints_length _ _).trans lr70) (ints_one _ _) hp rfl rfl rfl (Nat.le_of_eq ((Nat.zero_add _).trans ((ints_length _ _).trans List.length_replicate).symm)) (setMany_all _ _ (((ints_length _ _).trans lr70).trans ((ints_length _ _).trans List.length_replicate).symm)) (by decide) ?_; intro w hp
      exact k_done ⟨g10, g11, g12, g13, r7, c_g11_1, c_g12_2, c_g13_3, ⟨hF.1, ⟨⟨⟨⟨(fun h => absurd (hL4.symm.trans h) (by decide)), (fun h _ => nomatch (show true = false from h))⟩, (fun _ => rfl)⟩, hF.2.1.2⟩, hF.2.2⟩⟩, hp⟩
    refine allU_cons ?_ ?_
    · rintro L e w hLi hb hcl ⟨g10, g11, g12, g13, c_g10_0, c_g11_1, c_g12_2, c_g13_3, hF, hp⟩
      have hL1 := hb 1 (by kernel_rfl)
      have hL5 := hb 5 (by kernel_rfl)
      have lr80 := hF.1.1.1.1.2 hL1
      have qc_g11_1 := hF.2.1.2.1.2 hLi hL5
      rw [qc_g11_1] at hp
      refine k_storeA (v := .agg (ints .u64 r8).toArray) 5 0 (r := ⟨g11, 0, ints .u64 (List.replicate 4 (0 : Int))⟩) (ints .u64 r8) (ints .u64 r8) rfl (n := 4) (by kernel_rfl) (hF.1.2.2.1.1 hL5) (hF.1.1.2.2 hL1) rfl ((ints_length _ _).trans lr80) (ints_one _ _) hp rfl rfl rfl (Nat.le_of_eq ((Nat.zero_add _).trans ((ints_length _ _).trans List.length_replicate).symm)) (setMany_all _ _ (((ints_length _ _).trans lr80).trans ((ints_length _ _).trans List.length_replicate).symm)) (by decide) ?_; intro w hp
      exact k_done ⟨g10, g11, g12, g13, c_g10_0, r8, c_g12_2, c_g13_3, ⟨hF.1, ⟨⟨hF.2.1.1, ⟨⟨(fun h => absurd (hL5.symm.trans h) (by decide)), (fun h _ => nomatch (show true = false from h))⟩, (fun _ => rfl)⟩⟩, hF.2.2⟩⟩, hp⟩
    refine allU_cons ?_ ?_
    · rintro L e w hLi hb hcl ⟨g10, g11, g12, g13, c_g10_0, c_g11_1, c_g12_2, c_g13_3, hF, hp⟩
      have hL2 := hb 2 (by kernel_rfl)
      have hL6 := hb 6 (by kernel_rfl)
      have qc_g12_2 := hF.2.2.1.1.2 hLi hL6
      rw [qc_g12_2] at hp
      refine k_storeA (v := .agg (ints .u64 r5).toArray) 6 0 (r := ⟨g12, 0, ints .u64 (List.replicate 4 (0 : Int))⟩) (ints .u64 r5) (ints .u64 r5) rfl (n := 4) (by kernel_rfl) (hF.1.2.2.1.2 hL6) (hF.1.2.1.1.1 hL2) rfl ((ints_length _ _).trans lr50) (ints_one _ _) hp rfl rfl rfl (Nat.le_of_eq ((Nat.zero_add _).trans ((ints_length _ _).trans List.length_replicate).symm)) (setMany_all _ _ (((ints_length _ _).trans lr50).trans ((ints_length _ _).trans List.length_replicate).symm)) (by decide) ?_; intro w hp
      exact k_done ⟨g10, g11, g12, g13, c_g10_0, c_g11_1, r5, c_g13_3, ⟨hF.1, ⟨hF.2.1, ⟨⟨⟨(fun h => absurd (hL6.symm.trans h) (by decide)), (fun h _ => nomatch (show true = false from h))⟩, (fun _ => rfl)⟩, hF.2.2.2⟩⟩⟩, hp⟩
    refine allU_cons ?_ allU_nil
    · rintro L e w hLi hb hcl ⟨g10, g11, g12, g13, c_g10_0, c_g11_1, c_g12_2, c_g13_3, hF, hp⟩
      have hL3 := hb 3 (by kernel_rfl)
      have hL7 := hb 7 (by kernel_rfl)
      have lr90 := hF.1.1.1.2 hL3
      have qc_g13_3 := hF.2.2.2.1.2 hLi hL7
      rw [qc_g13_3] at hp
      refine k_storeA (v := .agg (ints .u64 r9).toArray) 7 0 (r := ⟨g13, 0, ints .u64 (List.replicate 4 (0 : Int))⟩) (ints .u64 r9) (ints .u64 r9) rfl (n := 4) (by kernel_rfl) (hF.1.2.2.2 hL7) (hF.1.2.1.1.2 hL3) rfl ((ints_length _ _).trans lr90) (ints_one _ _) hp rfl rfl rfl (Nat.le_of_eq ((Nat.zero_add _).trans ((ints_length _ _).trans List.length_replicate).symm)) (setMany_all _ _ (((ints_length _ _).trans lr90).trans ((ints_length _ _).trans List.length_replicate).symm)) (by decide) ?_; intro w hp
      exact k_done ⟨g10, g11, g12, g13, c_g10_0, c_g11_1, c_g12_2, r9, ⟨hF.1, ⟨hF.2.1, ⟨hF.2.2.1, ⟨⟨(fun h => absurd (hL7.symm.trans h) (by decide)), (fun h _ => nomatch (show true = false from h))⟩, (fun _ => rfl)⟩⟩⟩⟩, hp⟩
  rintro e306 w ⟨g10, g11, g12, g13, hF, hp⟩
  have lr70 := hF.1.1.1.1
  have lr80 := hF.1.1.1.2
  have lr90 := hF.1.1.2
  have s2_e306 := hF.1.2.1
  have s4_e306 := hF.1.2.2
  have s5_e306 := hF.2.1.1.1
  have s6_e306 := hF.2.1.1.2
  have s7_e306 := hF.2.1.2
  have s8_e306 := hF.2.2.1
  have s9_e306 := hF.2.2.2
  clear hF
  refine wseqP (p0 := [1, 1, 1, 1, 1, 1, 0]) (p1 := [1, 1, 1, 1, 1, 1, 1]) rfl rfl rfl ?_
  refine wseqP (p0 := [1, 1, 1, 1, 1, 1, 0, 0]) (p1 := [1, 1, 1, 1, 1, 1, 0, 1]) rfl rfl rfl ?_
  refine wregionT postilionref03_Mul.o7 (.tp 0 (.done)) [] rfl rfl (by kernel_rfl) (by kernel_rfl) ?_
  refine k_assign (v := .int .i64 254) rfl rfl ?_
  refine k_end ?_; intro e307 qe307
  have s2_e307 : e307 2 = .pointer (some ⟨g1, 0, none⟩) := (congrFun qe307 2).trans s2_e306
  have s4_e307 : e307 4 = .pointer (some ⟨g3, 0, none⟩) := (congrFun qe307 4).trans s4_e306
  have s5_e307 : e307 5 = .pointer (some ⟨g6, 0, none⟩) := (congrFun qe307 5).trans s5_e306
  have s6_e307 : e307 6 = .pointer (some ⟨g10, 0, none⟩) := (congrFun qe307 6).trans s6_e306
  have s7_e307 : e307 7 = .pointer (some ⟨g11, 0, none⟩) := (congrFun qe307 7).trans s7_e306
  have s8_e307 : e307 8 = .pointer (some ⟨g12, 0, none⟩) := (congrFun qe307 8).trans s8_e306
  have s9_e307 : e307 9 = .pointer (some ⟨g13, 0, none⟩) := (congrFun qe307 9).trans s9_e306
  have s10_e307 : e307 10 = .int .i64 254 := congrFun qe307 10
  clear qe307
  refine wblockP (p0 := [1, 1, 1, 1, 1, 1, 0, 1, 0]) 0 rfl rfl ?_
  obtain ⟨r66, qr66, h⟩ := bd_e h
  refine wloopP (p0 := [1, 1, 1, 1, 1, 1, 0, 1, 0, 0]) k rfl rfl (postilionref03_Mul.p1_ok g1 g10 g11 g12 g13 g2 g3 g6 x4 a1 r5 la1 lx4 lr50 ?hq0 k r7 r8 r5 r9 254 e307 _ lr70 lr80 lr50 lr90 s2_e307 s4_e307 s5_e307 s6_e307 s7_e307 s8_e307 s9_e307 s10_e307 hp qr66)
  case hq0 =>
    intro e324 w m67 m68 m69 m70 lm67 lm68 lm69 lm70 s4_e324 s6_e324 s7_e324 hp qq
    rw [qq] at h; clear qq
    refine wseqP (p0 := [1, 1, 1, 1, 1, 1, 1, 0]) (p1 := [1, 1, 1, 1, 1, 1, 1, 1]) rfl rfl rfl ?_
    refine wregionM postilionref03_Mul.o21 (.tk 0 (.tk 1 (.ef 2 (.ef 3 (.ef 4 (.ef 5 (.done))))))) [5] [(0, 0, 0), (0, 0, 0), (2, 63, 63), (5, 63, 63), (8, 63, 63), (31, 63, 63)] rfl rfl (by kernel_rfl) (by kernel_rfl) (Nat.le_of_ble_eq_true (by kernel_rfl)) (by kernel_rfl) (by kernel_rfl) (by kernel_rfl) ?_
    have hp := hp.drew
    refine k_loadA (n := 4) (xs := ints .u64 m67) 0 rfl (by kernel_rfl) (by kernel_rfl) s6_e324 (hp.get (j := 4) rfl) rfl rfl ((ints_length _ _).trans lm67) (fun m v hm => by rw [Nat.zero_add]; exact hm) ?_
    refine k_loadA (n := 4) (xs := ints .u64 m68) 0 rfl (by kernel_rfl) (by kernel_rfl) s7_e324 (hp.get (j := 5) rfl) rfl rfl ((ints_length _ _).trans lm68) (fun m v hm => by rw [Nat.zero_add]; exact hm) ?_
    obtain ⟨r71, qr71, h⟩ := bd_e h
    refine k_call [.agg (ints .u64 m68).toArray] rfl (by kernel_rfl) (args1 rfl) (postilionref04_Inverse_ok k m68 lm68 _ (hp.toR (fun _ h => by cases h)) qr71) ?_
    rintro _ w' ⟨_, rfl, rfl, lr710, hpc⟩
    refine ⟨_, rfl, .inr (.of_below hpc.chg.to_below), ?_⟩; have hp := hp.below hpc.chg.to_below; clear hpc
    obtain ⟨r72, qr72, h⟩ := bd_e h
    refine k_call [.agg (ints .u64 m67).toArray, .agg (ints .u64 r71).toArray] rfl (by kernel_rfl) (args2 rfl rfl) (postilionref04_Times_ok k m67 r71 lm67 lr710 _ (hp.toR (fun _ h => by cases h)) qr72) ?_
    rintro _ w' ⟨_, rfl, rfl, lr720, hpc⟩
    refine ⟨_, rfl, .inr (.of_below hpc.chg.to_below), ?_⟩; have hp := hp.below hpc.chg.to_below; clear hpc
    obtain ⟨r73, qr73, h⟩ := bd_e h
    refine k_call [.agg (ints .u64 r72).toArray] rfl (by kernel_rfl) (args1 rfl) (postilionref04_Bytes_ok k r72 lr720 _ (hp.toR (fun _ h => by cases h)) qr73) ?_
    rintro _ w' ⟨_, rfl, rfl, lr730, hpc⟩
    refine ⟨_, rfl, .inr (.of_below hpc.chg.to_below), ?_⟩; have hp := hp.below hpc.chg.to_below; clear hpc
    refine k_storeA (v := .agg (ints .u8 r73).toArray) 2 0 (r := ⟨g3, 0, ints .u8 (List.replicate 32 (0 : Int))⟩) (ints .u8 r73) (ints .u8 r73) rfl (n := 32) (by kernel_rfl) s4_e324 rfl rfl ((ints_length _ _).trans lr730) (ints_one _ _) hp rfl rfl rfl (Nat.le_of_eq ((Nat.zero_add _).trans ((ints_length _ _).trans List.length_replicate).symm)) (setMany_all _ _ (((ints_length _ _).trans lr730).trans ((ints_length _ _).trans List.length_replicate).symm)) (by decide) ?_; intro w hp
    refine k_end ?_; intro e325 qe325
    have s4_e325 : e325 4 = .pointer (some ⟨g3, 0, none⟩) := (congrFun qe325 4).trans s4_e324
    clear qe325
    refine wret rfl ?_
    have hr : r = r73 := (Option.some.inj h).symm
    show RetP _ _ _ _ _
    rw [hr]
    exact ret_i [.agg (ints .u8 r73).toArray] (res_cell s4_e325 (loadVar_agg (by kernel_rfl) (by kernel_rfl) ((ints_length _ _).trans lr730) (hp.get (j := 2) rfl) rfl rfl rfl) res_nil) ⟨rfl, lr730, hp.none⟩
/-! 14 postilion/postilionref03.Shared -/
noncomputable def postilionref03_Shared.o1 : Array Oper := opsC (at_ (fbody Try.f14) [0])
noncomputable def postilionref03_Shared.o2 : Array Oper := opsC (at_ (fbody Try.f14) [1, 0])
noncomputable def postilionref03_Shared.o3 : Array Oper := opsC (at_ (fbody Try.f14) [1, 1, 0, 0])
noncomputable def postilionref03_Shared.o4 : Array Oper := opsC (at_ (fbody Try.f14) [1, 1, 0, 1, 0, 0])
noncomputable def postilionref03_Shared.o5 : Array Oper := opsC (at_ (fbody Try.f14) [1, 1, 1, 0])
theorem postilionref03_Shared_ok (k : Nat) (a0 : List Int) (a1 : List Int) (la0 : a0.length = 32) (la1 : a1.length = 32) (w0 : World) (hp : Hp w0 [] w0 [] []) {r : List Int × Int} (h : postilionref03_Shared.f k a0 a1 = some r) :
    Calls Try.prog 14 [.agg (ints .u8 a0).toArray, .agg (ints .u8 a1).toArray].toArray w0 fun x w' => ∃ v, x = .returned v ∧ v = .tuple #[.agg (ints .u8 r.1).toArray, .int .i64 r.2] ∧ r.1.length = 32 ∧ Hp w0 [] w' [] [] := by
  refine calls_inP Try.func14 rfl (Nat.le_of_ble_eq_true (by kernel_rfl)) (by kernel_rfl) ?_
  intro e0 qe0
  have s0_e0 : e0 0 = .agg (ints .u8 a0).toArray := congrFun qe0 0
  have s1_e0 : e0 1 = .agg (ints .u8 a1).toArray := congrFun qe0 1
  clear qe0
  unfold postilionref03_Shared.f at h
  refine wseqP (p0 := [0]) (p1 := [1]) rfl rfl rfl ?_
  refine wregionT postilionref03_Shared.o1 (.ef 0 (.ef 1 (.ef 2 (.tp 3 (.done))))) [] rfl rfl (by kernel_rfl) (by kernel_rfl) ?_
  refine k_box (v := .agg (ints .u8 a0).toArray) (ints .u8 a0) rfl s0_e0 rfl hp ?_
  intro g1 w hbg1 hp
  refine k_box (v := .agg (ints .u8 a1).toArray) (ints .u8 a1) rfl s1_e0 rfl hp ?_
  intro g2 w hbg2 hp
  refine k_alloc (ints .u8 (List.replicate 32 (0 : Int))) rfl (by kernel_rfl) hp ?_
  intro g3 w hbg3 hp
  refine k_assign (v := .int .i64 0) rfl rfl ?_
  refine k_end ?_; intro e326 qe326
  have s2_e326 : e326 2 = .pointer (some ⟨g1, 0, none⟩) := congrFun qe326 2
  have s3_e326 : e326 3 = .pointer (some ⟨g2, 0, none⟩) := congrFun qe326 3
  have s4_e326 : e326 4 = .pointer (some ⟨g3, 0, none⟩) := congrFun qe326 4
  clear qe326
  refine wseqP (p0 := [1, 0]) (p1 := [1, 1]) rfl rfl rfl ?_
  refine wregionT postilionref03_Shared.o2 (.tk 0 (.tk 1 (.ef 2 (.ef 3 (.ef 4 (.done)))))) [4] rfl rfl (by kernel_rfl) (by kernel_rfl) ?_
  refine k_loadA (n := 32) (xs := ints .u8 a0) 0 rfl (by kernel_rfl) (by kernel_rfl) s2_e326 (hp.get (j := 0) rfl) rfl rfl ((ints_length _ _).trans la0) (fun m v hm => by rw [Nat.zero_add]; exact hm) ?_
  refine k_loadA (n := 32) (xs := ints .u8 a1) 0 rfl (by kernel_rfl) (by kernel_rfl) s3_e326 (hp.get (j := 1) rfl) rfl rfl ((ints_length _ _).trans la1) (fun m v hm => by rw [Nat.zero_add]; exact hm) ?_
  obtain ⟨r4, qr4, h⟩ := bd_e h
  refine k_call [.agg (ints .u8 a0).toArray, .agg (ints .u8 a1).toArray] rfl (by kernel_rfl) (args2 rfl rfl) (postilionref03_Mul_ok k a0 a1 la0 la1 _ (hp.toR (fun _ h => by cases h)) qr4) ?_
  rintro _ w' ⟨_, rfl, rfl, lr40, hpc⟩
  refine ⟨_, rfl, .inr (.of_below hpc.chg.to_below), ?_⟩; have hp := hp.below hpc.chg.to_below; clear hpc
  refine k_alloc (ints .u8 (List.replicate 32 (0 : Int))) rfl (by kernel_rfl) hp ?_
  intro g5 w hbg5 hp
  refine k_storeA (v := .agg (ints .u8 r4).toArray) 3 0 (r := ⟨g5, 0, ints .u8 (List.replicate 32 (0 : Int))⟩) (ints .u8 r4) (ints .u8 r4) rfl (n := 32) (by kernel_rfl) rfl rfl rfl ((ints_length _ _).trans lr40) (ints_one _ _) hp rfl rfl rfl (Nat.le_of_eq ((Nat.zero_add _).trans ((ints_length _ _).trans List.length_replicate).symm)) (setMany_all _ _ (((ints_length _ _).trans lr40).trans ((ints_length _ _).trans List.length_replicate).symm)) (by decide) ?_; intro w hp
  refine k_end ?_; intro e327 qe327
  have s4_e327 : e327 4 = .pointer (some ⟨g3, 0, none⟩) := (congrFun qe327 4).trans s4_e326
  have s6_e327 : e327 6 = .pointer (some ⟨g5, 0, none⟩) := congrFun qe327 6
  clear qe327
  refine wseqP (p0 := [1, 1, 0]) (p1 := [1, 1, 1]) rfl rfl rfl ?_
  refine wseqP (p0 := [1, 1, 0, 0]) (p1 := [1, 1, 0, 1]) rfl rfl rfl ?_
  refine wregionT postilionref03_Shared.o3 (.tk 0 (.tp 1 (.tp 2 (.done)))) [] rfl rfl (by kernel_rfl) (by kernel_rfl) ?_
  refine k_loadA (n := 32) (xs := ints .u8 r4) 0 rfl (by kernel_rfl) (by kernel_rfl) s6_e327 (hp.get (j := 3) rfl) rfl rfl ((ints_length _ _).trans lr40) (fun m v hm => by rw [Nat.zero_add]; exact hm) ?_
  refine k_build (v := .agg (ints .u8 (List.replicate 32 (0 : Int))).toArray) rfl (fun _ => by kernel_rfl) ?_
  refine k_eqI (k := .u8) (l := r4) (l' := (List.replicate 32 (0 : Int))) rfl Try.underlying22 Try.underlying5 (by kernel_rfl) (by kernel_rfl) rfl rfl lr40 List.length_replicate ?_
  refine k_end ?_; intro e328 qe328
  have s4_e328 : e328 4 = .pointer (some ⟨g3, 0, none⟩) := (congrFun qe328 4).trans s4_e327
  have s6_e328 : e328 6 = .pointer (some ⟨g5, 0, none⟩) := (congrFun qe328 6).trans s6_e327
  have s12_e328 : e328 12 = .bool (r4 == (List.replicate 32 (0 : Int))) := congrFun qe328 12
  clear qe328
  refine wcondP (p0 := [1, 1, 0, 1, 0]) (p1 := [1, 1, 0, 1, 1]) (t := (r4 == (List.replicate 32 (0 : Int)))) rfl rfl rfl (by decide) s12_e328 (fun hb => ?_) (fun hb => ?_)
  · replace h := br_t hb h
    refine wseqP (p0 := [1, 1, 0, 1, 0, 0]) (p1 := [1, 1, 0, 1, 0, 1]) rfl rfl rfl ?_
    refine wregionT postilionref03_Shared.o4 (.tk 0 (.ef 1 (.tp 2 (.done)))) [1] rfl rfl (by kernel_rfl) (by kernel_rfl) ?_
    refine k_loadA (n := 32) (xs := ints .u8 r4) 0 rfl (by kernel_rfl) (by kernel_rfl) s6_e328 (hp.get (j := 3) rfl) rfl rfl ((ints_length _ _).trans lr40) (fun m v hm => by rw [Nat.zero_add]; exact hm) ?_
    refine k_storeA (v := .agg (ints .u8 r4).toArray) 2 0 (r := ⟨g3, 0, ints .u8 (List.replicate 32 (0 : Int))⟩) (ints .u8 r4) (ints .u8 r4) rfl (n := 32) (by kernel_rfl) s4_e328 rfl rfl ((ints_length _ _).trans lr40) (ints_one _ _) hp rfl rfl rfl (Nat.le_of_eq ((Nat.zero_add _).trans ((ints_length _ _).trans List.length_replicate).symm)) (setMany_all _ _ (((ints_length _ _).trans lr40).trans ((ints_length _ _).trans List.length_replicate).symm)) (by decide) ?_; intro w hp
    refine k_assign (v := .int .i64 2) rfl rfl ?_
    refine k_end ?_; intro e329 qe329
    have s4_e329 : e329 4 = .pointer (some ⟨g3, 0, none⟩) := (congrFun qe329 4).trans s4_e328
    have s5_e329 : e329 5 = .int .i64 2 := congrFun qe329 5
    clear qe329
    refine wret rfl ?_
    have hr : r = (r4, 2) := (Option.some.inj h).symm
    show RetP _ _ _ _ _
    rw [hr]
    exact ret_i [.agg (ints .u8 r4).toArray, .int .i64 2] (res_cell s4_e329 (loadVar_agg (by kernel_rfl) (by kernel_rfl) ((ints_length _ _).trans lr40) (hp.get (j := 2) rfl) rfl rfl rfl) (res_tmp s5_e329 res_nil)) ⟨rfl, lr40, hp.none⟩
  · replace h := br_f hb h
    refine wskip rfl ?_
    refine wseqP (p0 := [1, 1, 1, 0]) (p1 := [1, 1, 1, 1]) rfl rfl rfl ?_
    refine wregionT postilionref03_Shared.o5 (.tk 0 (.ef 1 (.tp 2 (.done)))) [1] rfl rfl (by kernel_rfl) (by kernel_rfl) ?_
    refine k_loadA (n := 32) (xs := ints .u8 r4) 0 rfl (by kernel_rfl) (by kernel_rfl) s6_e328 (hp.get (j := 3) rfl) rfl rfl ((ints_length _ _).trans lr40) (fun m v hm => by rw [Nat.zero_add]; exact hm) ?_
    refine k_storeA (v := .agg (ints .u8 r4).toArray) 2 0 (r := ⟨g3, 0, ints .u8 (List.replicate 32 (0 : Int))⟩) (ints .u8 r4) (ints .u8 r4) rfl (n := 32) (by kernel_rfl) s4_e328 rfl rfl ((ints_length _ _).trans lr40) (ints_one _ _) hp rfl rfl rfl (Nat.le_of_eq ((Nat.zero_add _).trans ((ints_length _ _).trans List.length_replicate).symm)) (setMany_all _ _ (((ints_length _ _).trans lr40).trans ((ints_length _ _).trans List.length_replicate).symm)) (by decide) ?_; intro w hp
    refine k_assign (v := .int .i64 0) rfl rfl ?_
    refine k_end ?_; intro e330 qe330
    have s4_e330 : e330 4 = .pointer (some ⟨g3, 0, none⟩) := (congrFun qe330 4).trans s4_e328
    have s5_e330 : e330 5 = .int .i64 0 := congrFun qe330 5
    clear qe330
    refine wret rfl ?_
    have hr : r = (r4, 0) := (Option.some.inj h).symm
    show RetP _ _ _ _ _
    rw [hr]
    exact ret_i [.agg (ints .u8 r4).toArray, .int .i64 0] (res_cell s4_e330 (loadVar_agg (by kernel_rfl) (by kernel_rfl) ((ints_length _ _).trans lr40) (hp.get (j := 2) rfl) rfl rfl rfl) (res_tmp s5_e330 res_nil)) ⟨rfl, lr40, hp.none⟩
/-! 16 postilion/postilionref03.Public -/
noncomputable def postilionref03_Public.o1 : Array Oper := opsC (at_ (fbody Try.f16) [0])
noncomputable def postilionref03_Public.o2 : Array Oper := opsC (at_ (fbody Try.f16) [1, 0])
theorem postilionref03_Public_ok (k : Nat) (a0 : List Int) (la0 : a0.length = 32) (w0 : World) (hp : Hp w0 [] w0 [] []) {r : List Int} (h : postilionref03_Public.f k a0 = some r) :
    Calls Try.prog 16 [.agg (ints .u8 a0).toArray].toArray w0 fun x w' => ∃ v, x = .returned v ∧ v = .agg (ints .u8 r).toArray ∧ r.length = 32 ∧ Hp w0 [] w' [] [] := by
  refine calls_inP Try.func16 rfl (Nat.le_of_ble_eq_true (by kernel_rfl)) (by kernel_rfl) ?_
  intro e0 qe0
  have s0_e0 : e0 0 = .agg (ints .u8 a0).toArray := congrFun qe0 0
  clear qe0
  unfold postilionref03_Public.f at h
  refine wseqP (p0 := [0]) (p1 := [1]) rfl rfl rfl ?_
  refine wregionT postilionref03_Public.o1 (.ef 0 (.ef 1 (.done))) [] rfl rfl (by kernel_rfl) (by kernel_rfl) ?_
  refine k_box (v := .agg (ints .u8 a0).toArray) (ints .u8 a0) rfl s0_e0 rfl hp ?_
  intro g1 w hbg1 hp
  refine k_alloc (ints .u8 (List.replicate 32 (0 : Int))) rfl (by kernel_rfl) hp ?_
  intro g2 w hbg2 hp
  refine k_end ?_; intro e331 qe331
  have s1_e331 : e331 1 = .pointer (some ⟨g1, 0, none⟩) := congrFun qe331 1
  have s2_e331 : e331 2 = .pointer (some ⟨g2, 0, none⟩) := congrFun qe331 2
  clear qe331
  refine wseqP (p0 := [1, 0]) (p1 := [1, 1]) rfl rfl rfl ?_
  refine wregionT postilionref03_Public.o2 (.tk 0 (.tp 1 (.ef 2 (.ef 3 (.done))))) [3] rfl rfl (by kernel_rfl) (by kernel_rfl) ?_
  refine k_loadA (n := 32) (xs := ints .u8 a0) 0 rfl (by kernel_rfl) (by kernel_rfl) s1_e331 (hp.get (j := 0) rfl) rfl rfl ((ints_length _ _).trans la0) (fun m v hm => by rw [Nat.zero_add]; exact hm) ?_
  refine k_build (v := .agg (ints .u8 ((List.replicate 32 (0 : Int)).set 0 9)).toArray) rfl (fun _ => by kernel_rfl) ?_
  obtain ⟨r3, qr3, h⟩ := bd_e h
  refine k_call [.agg (ints .u8 a0).toArray, .agg (ints .u8 ((List.replicate 32 (0 : Int)).set 0 9)).toArray] rfl (by kernel_rfl) (args2 rfl rfl) (postilionref03_Mul_ok k a0 ((List.replicate 32 (0 : Int)).set 0 9) la0 (List.length_set.trans List.length_replicate) _ (hp.toR (fun _ h => by cases h)) qr3) ?_
  rintro _ w' ⟨_, rfl, rfl, lr30, hpc⟩
  refine ⟨_, rfl, .inr (.of_below hpc.chg.to_below), ?_⟩; have hp := hp.below hpc.chg.to_below; clear hpc
  refine k_storeA (v := .agg (ints .u8 r3).toArray) 1 0 (r := ⟨g2, 0, ints .u8 (List.replicate 32 (0 : Int))⟩) (ints .u8 r3) (ints .u8 r3) rfl (n := 32) (by kernel_rfl) s2_e331 rfl rfl ((ints_length _ _).trans lr30) (ints_one _ _) hp rfl rfl rfl (Nat.le_of_eq ((Nat.zero_add _).trans ((ints_length _ _).trans List.length_replicate).symm)) (setMany_all _ _ (((ints_length _ _).trans lr30).trans ((ints_length _ _).trans List.length_replicate).symm)) (by decide) ?_; intro w hp
  refine k_end ?_; intro e332 qe332
  have s2_e332 : e332 2 = .pointer (some ⟨g2, 0, none⟩) := (congrFun qe332 2).trans s2_e331
  clear qe332
  refine wret rfl ?_
  have hr : r = r3 := (Option.some.inj h).symm
  show RetP _ _ _ _ _
  rw [hr]
  exact ret_i [.agg (ints .u8 r3).toArray] (res_cell s2_e332 (loadVar_agg (by kernel_rfl) (by kernel_rfl) ((ints_length _ _).trans lr30) (hp.get (j := 1) rfl) rfl rfl rfl) res_nil) ⟨rfl, lr30, hp.none⟩
/-! 6 postilion/postilionlaw08.XdhMuls -/
noncomputable def postilionlaw08_XdhMuls.o1 : Array Oper := opsC (at_ (fbody Try.f6) [0])
noncomputable def postilionlaw08_XdhMuls.o2 : Array Oper := opsC (at_ (fbody Try.f6) [1, 0, 0])
noncomputable def postilionlaw08_XdhMuls.o3 : Array Oper := opsC (at_ (fbody Try.f6) [1, 0, 1, 0, 0])
noncomputable def postilionlaw08_XdhMuls.o4 : Array Oper := opsC (at_ (fbody Try.f6) [1, 1, 0])
noncomputable def postilionlaw08_XdhMuls.o5 : Array Oper := opsC (at_ (fbody Try.f6) [1, 1, 1, 0])
noncomputable def postilionlaw08_XdhMuls.o6 : Array Oper := opsC (at_ (fbody Try.f6) [1, 1, 1, 1, 0])
theorem postilionlaw08_XdhMuls.p1_ok {w0 : World} {Ws : List Wr} {Q : Exit → Env → World → Prop} (k : Nat) (g1 g2 g5 g8 : Nat) (x6 : Int) (x9 : Int) (a0 : List Int) (a1 : List Int) (r4 : List Int × Int) (r7 : List Int × Int) (la0 : a0.length = 32) (la1 : a1.length = 32) (lr40 : r4.1.length = 32) (lr70 : r7.1.length = 32) {r : Bool} (hQ0 : ∀ (e' : Env) (w' : World) (z0 : Bool), e' 4 = .bool z0 → Hp w0 Ws w' [⟨g1, 0, ints .u8 a0⟩, ⟨g2, 0, ints .u8 a1⟩, ⟨g5, 0, ints .u8 r4.1⟩, ⟨g8, 0, ints .u8 r7.1⟩] [] → r = (z0) → Q .normal e' w') (e : Env) (w : World) (s2_e : e 2 = .pointer (some ⟨g1, 0, none⟩)) (s3_e : e 3 = .pointer (some ⟨g2, 0, none⟩)) (s5_e : e 5 = .pointer (some ⟨g5, 0, none⟩)) (s6_e : e 6 = .int .i64 x6) (s7_e : e 7 = .pointer (some ⟨g8, 0, none⟩)) (s8_e : e 8 = .int .i64 x9) (hp : Hp w0 Ws w [⟨g1, 0, ints .u8 a0⟩, ⟨g2, 0, ints .u8 a1⟩, ⟨g5, 0, ints .u8 r4.1⟩, ⟨g8, 0, ints .u8 r7.1⟩] []) (h : postilionlaw08_XdhMuls.p1 k x6 x9 a0 a1 r4 r7 = some r) : Wp Try.prog Try.f6.ntmps (at_ (fbody Try.f6) [1, 1, 1, 1, 0]) Q e w := by
  unfold postilionlaw08_XdhMuls.p1 at h
  refine wregionM postilionlaw08_XdhMuls.o6 (.tk 0 (.tk 1 (.tk 3 (.tk 4 (.ef 2 (.ef 5 (.tp 6 (.tp 7 (.tk 8 (.tk 10 (.ef 9 (.ef 11 (.tp 12 (.tp 13 (.tp 14 (.tk 15 (.tk 16 (.tp 17 (.tp 18 (.tp 19 (.tp 20 (.tp 21 (.tp 22 (.tp 23 (.tp 24 (.done)))))))))))))))))))))))))) [] [(0, 0, 0), (0, 0, 0), (3, 33554431, 33554431), (0, 0, 0), (0, 0, 0), (28, 33554431, 33554431), (36, 36, 33554431), (96, 64, 33554431), (128, 128, 0), (384, 33554431, 33554431), (128, 128, 0), (1664, 33554431, 33554431), (2688, 2688, 33554431), (4224, 4224, 33554431), (10240, 8192, 33554431), (16384, 16384, 0), (16384, 16384, 0), (114688, 114688, 33554431), (147456, 147456, 33554431), (278528, 262144, 33554431), (524288, 524288, 33554431), (524288, 524288, 33554431), (3670016, 3670016, 33554431), (4718592, 4718592, 33554431), (16777215, 8388608, 33554431)] rfl rfl (by kernel_rfl) (by kernel_rfl) (Nat.le_of_ble_eq_true (by kernel_rfl)) (by kernel_rfl) (by kernel_rfl) (by kernel_rfl) ?_
  have hp := hp.drew
  refine k_loadA (n := 32) (xs := ints .u8 a0) 0 rfl (by kernel_rfl) (by kernel_rfl) s2_e (hp.get (j := 0) rfl) rfl rfl ((ints_length _ _).trans la0) (fun m v hm => by rw [Nat.zero_add]; exact hm) ?_
  refine k_loadA (n := 32) (xs := ints .u8 a1) 0 rfl (by kernel_rfl) (by kernel_rfl) s3_e (hp.get (j := 1) rfl) rfl rfl ((ints_length _ _).trans la1) (fun m v hm => by rw [Nat.zero_add]; exact hm) ?_
  refine k_loadA (n := 32) (xs := ints .u8 a0) 0 rfl (by kernel_rfl) (by kernel_rfl) s2_e (hp.get (j := 0) rfl) rfl rfl ((ints_length _ _).trans la0) (fun m v hm => by rw [Nat.zero_add]; exact hm) ?_
  refine k_loadA (n := 32) (xs := ints .u8 a1) 0 rfl (by kernel_rfl) (by kernel_rfl) s3_e (hp.get (j := 1) rfl) rfl rfl ((ints_length _ _).trans la1) (fun m v hm => by rw [Nat.zero_add]; exact hm) ?_
  obtain ⟨r10, qr10, h⟩ := bd_e h
  refine k_call [.agg (ints .u8 a0).toArray, .agg (ints .u8 a1).toArray] rfl (by kernel_rfl) (args2 rfl rfl) (xdh_Mul_ok k a0 a1 la0 la1 _ (hp.toR (fun _ h => by cases h)) qr10) ?_
  rintro _ w' ⟨_, rfl, rfl, lr100, hpc⟩
  refine ⟨_, rfl, .inr (.of_below hpc.chg.to_below), ?_⟩; have hp := hp.below hpc.chg.to_below; clear hpc
  obtain ⟨r11, qr11, h⟩ := bd_e h
  refine k_call [.agg (ints .u8 a0).toArray, .agg (ints .u8 a1).toArray] rfl (by kernel_rfl) (args2 rfl rfl) (postilionref03_Mul_ok k a0 a1 la0 la1 _ (hp.toR (fun _ h => by cases h)) qr11) ?_
  rintro _ w' ⟨_, rfl, rfl, lr110, hpc⟩
  refine ⟨_, rfl, .inr (.of_below hpc.chg.to_below), ?_⟩; have hp := hp.below hpc.chg.to_below; clear hpc
  refine k_eqI (k := .u8) (l := r10) (l' := r11) rfl Try.underlying22 Try.underlying5 (by kernel_rfl) (by kernel_rfl) rfl rfl lr100 lr110 ?_
  rcases Bool.eq_false_or_eq_true (r10 == r11) with hb | hb
  · replace h := br_t hb h
    refine k_move (v := .bool true) rfl (Eq.trans (b := .bool (r10 == r11)) rfl (congrArg Value.bool hb)) ?_
    refine k_loadA (n := 32) (xs := ints .u8 a0) 0 rfl (by kernel_rfl) (by kernel_rfl) s2_e (hp.get (j := 0) rfl) rfl rfl ((ints_length _ _).trans la0) (fun m v hm => by rw [Nat.zero_add]; exact hm) ?_
    refine k_loadA (n := 32) (xs := ints .u8 a0) 0 rfl (by kernel_rfl) (by kernel_rfl) s2_e (hp.get (j := 0) rfl) rfl rfl ((ints_length _ _).trans la0) (fun m v hm => by rw [Nat.zero_add]; exact hm) ?_
    obtain ⟨r12, qr12, h⟩ := bd_e h
    refine k_call [.agg (ints .u8 a0).toArray] rfl (by kernel_rfl) (args1 rfl) (xdh_Public_ok k a0 la0 _ (hp.toR (fun _ h => by cases h)) qr12) ?_
    rintro _ w' ⟨_, rfl, rfl, lr120, hpc⟩
    refine ⟨_, rfl, .inr (.of_below hpc.chg.to_below), ?_⟩; have hp := hp.below hpc.chg.to_below; clear hpc
    obtain ⟨r13, qr13, h⟩ := bd_e h
    refine k_call [.agg (ints .u8 a0).toArray] rfl (by kernel_rfl) (args1 rfl) (postilionref03_Public_ok k a0 la0 _ (hp.toR (fun _ h => by cases h)) qr13) ?_
    rintro _ w' ⟨_, rfl, rfl, lr130, hpc⟩
    refine ⟨_, rfl, .inr (.of_below hpc.chg.to_below), ?_⟩; have hp := hp.below hpc.chg.to_below; clear hpc
    refine k_eqI (k := .u8) (l := r12) (l' := r13) rfl Try.underlying22 Try.underlying5 (by kernel_rfl) (by kernel_rfl) rfl rfl lr120 lr130 ?_
    refine k_pick (b := true) (v := .bool (r12 == r13)) rfl rfl rfl rfl rfl ?_
    rcases Bool.eq_false_or_eq_true (r12 == r13) with hb | hb
    · replace h := br_t hb h
      refine k_move (v := .bool true) rfl (Eq.trans (b := .bool (r12 == r13)) rfl (congrArg Value.bool hb)) ?_
      refine k_loadA (n := 32) (xs := ints .u8 r4.1) 0 rfl (by kernel_rfl) (by kernel_rfl) s5_e (hp.get (j := 2) rfl) rfl rfl ((ints_length _ _).trans lr40) (fun m v hm => by rw [Nat.zero_add]; exact hm) ?_
      refine k_loadA (n := 32) (xs := ints .u8 r7.1) 0 rfl (by kernel_rfl) (by kernel_rfl) s7_e (hp.get (j := 3) rfl) rfl rfl ((ints_length _ _).trans lr70) (fun m v hm => by rw [Nat.zero_add]; exact hm) ?_
      refine k_eqI (k := .u8) (l := r4.1) (l' := r7.1) rfl Try.underlying22 Try.underlying5 (by kernel_rfl) (by kernel_rfl) rfl rfl lr40 lr70 ?_
      refine k_pick (b := true) (v := .bool (r4.1 == r7.1)) rfl rfl rfl rfl rfl ?_
      rcases Bool.eq_false_or_eq_true (r4.1 == r7.1) with hb | hb
      · replace h := br_t hb h
        refine k_move (v := .bool true) rfl (Eq.trans (b := .bool (r4.1 == r7.1)) rfl (congrArg Value.bool hb)) ?_
        refine k_move (v := .int .i64 x6) rfl s6_e ?_
        refine k_move (v := .int .i64 x9) rfl s8_e ?_
        refine k_bin (X := .int .i64 x6) (Y := .int .i64 x9) rfl rfl rfl rfl ?_
        refine k_pick (b := true) (v := .bool (x6 == x9)) rfl rfl rfl rfl rfl ?_
        refine k_assign (v := .bool (x6 == x9)) rfl rfl ?_
        refine k_end ?_; intro e338 qe338
        have s4_e338 : e338 4 = .bool (x6 == x9) := congrFun qe338 4
        clear qe338
        exact hQ0 _ _ (x6 == x9)  s4_e338 (hp.drop (L' := [⟨g1, 0, ints .u8 a0⟩, ⟨g2, 0, ints .u8 a1⟩, ⟨g5, 0, ints .u8 r4.1⟩, ⟨g8, 0, ints .u8 r7.1⟩]) (List.Sublist.refl _)) (Option.some.inj h).symm
      · replace h := br_f hb h
        refine k_move (v := .bool false) rfl (Eq.trans (b := .bool (r4.1 == r7.1)) rfl (congrArg Value.bool hb)) ?_
        refine k_skip rfl ?_
        refine k_skip rfl ?_
        refine k_skip rfl ?_
        refine k_pick (b := false) (v := .bool false) rfl rfl rfl rfl rfl ?_
        refine k_assign (v := .bool false) rfl rfl ?_
        refine k_end ?_; intro e339 qe339
        have s4_e339 : e339 4 = .bool false := congrFun qe339 4
        clear qe339
        exact hQ0 _ _ false  s4_e339 (hp.drop (L' := [⟨g1, 0, ints .u8 a0⟩, ⟨g2, 0, ints .u8 a1⟩, ⟨g5, 0, ints .u8 r4.1⟩, ⟨g8, 0, ints .u8 r7.1⟩]) (List.Sublist.refl _)) (Option.some.inj h).symm
    · replace h := br_f hb h
      refine k_move (v := .bool false) rfl (Eq.trans (b := .bool (r12 == r13)) rfl (congrArg Value.bool hb)) ?_
      refine k_skip_tk rfl ?_
      refine k_skip_tk rfl ?_
      refine k_skip rfl ?_
      refine k_pick (b := false) (v := .bool false) rfl rfl rfl rfl rfl ?_
      refine k_move (v := .bool false) rfl rfl ?_
      refine k_skip rfl ?_
      refine k_skip rfl ?_
      refine k_skip rfl ?_
      refine k_pick (b := false) (v := .bool false) rfl rfl rfl rfl rfl ?_
      refine k_assign (v := .bool false) rfl rfl ?_
      refine k_end ?_; intro e340 qe340
      have s4_e340 : e340 4 = .bool false := congrFun qe340 4
      clear qe340
      exact hQ0 _ _ false  s4_e340 (hp.drop (L' := [⟨g1, 0, ints .u8 a0⟩, ⟨g2, 0, ints .u8 a1⟩, ⟨g5, 0, ints .u8 r4.1⟩, ⟨g8, 0, ints .u8 r7.1⟩]) (List.Sublist.refl _)) (Option.some.inj h).symm
  · replace h := br_f hb h
    refine k_move (v := .bool false) rfl (Eq.trans (b := .bool (r10 == r11)) rfl (congrArg Value.bool hb)) ?_
    refine k_skip_tk rfl ?_
    refine k_skip_tk rfl ?_
    refine k_skip_ef rfl ?_
    refine k_skip_ef rfl ?_
    refine k_skip rfl ?_
    refine k_pick (b := false) (v := .bool false) rfl rfl rfl rfl rfl ?_
    refine k_move (v := .bool false) rfl rfl ?_
    refine k_skip_tk rfl ?_
    refine k_skip_tk rfl ?_
    refine k_skip rfl ?_
    refine k_pick (b := false) (v := .bool false) rfl rfl rfl rfl rfl ?_
    refine k_move (v := .bool false) rfl rfl ?_
    refine k_skip rfl ?_
    refine k_skip rfl ?_
    refine k_skip rfl ?_
    refine k_pick (b := false) (v := .bool false) rfl rfl rfl rfl rfl ?_
    refine k_assign (v := .bool false) rfl rfl ?_
    refine k_end ?_; intro e341 qe341
    have s4_e341 : e341 4 = .bool false := congrFun qe341 4
    clear qe341
    exact hQ0 _ _ false  s4_e341 (hp.drop (L' := [⟨g1, 0, ints .u8 a0⟩, ⟨g2, 0, ints .u8 a1⟩, ⟨g5, 0, ints .u8 r4.1⟩, ⟨g8, 0, ints .u8 r7.1⟩]) (List.Sublist.refl _)) (Option.some.inj h).symm
theorem postilionlaw08_XdhMuls_ok (k : Nat) (a0 : List Int) (a1 : List Int) (la0 : a0.length = 32) (la1 : a1.length = 32) (w0 : World) (hp : Hp w0 [] w0 [] []) {r : Bool} (h : postilionlaw08_XdhMuls.f k a0 a1 = some r) :
    Calls Try.prog 6 [.agg (ints .u8 a0).toArray, .agg (ints .u8 a1).toArray].toArray w0 fun x w' => ∃ v, x = .returned v ∧ v = .bool r ∧ Hp w0 [] w' [] [] := by
  refine calls_inP Try.func6 rfl (Nat.le_of_ble_eq_true (by kernel_rfl)) (by kernel_rfl) ?_
  intro e0 qe0
  have s0_e0 : e0 0 = .agg (ints .u8 a0).toArray := congrFun qe0 0
  have s1_e0 : e0 1 = .agg (ints .u8 a1).toArray := congrFun qe0 1
  clear qe0
  unfold postilionlaw08_XdhMuls.f at h
  refine wseqP (p0 := [0]) (p1 := [1]) rfl rfl rfl ?_
  refine wregionT postilionlaw08_XdhMuls.o1 (.ef 0 (.ef 1 (.tp 2 (.done)))) [] rfl rfl (by kernel_rfl) (by kernel_rfl) ?_
  refine k_box (v := .agg (ints .u8 a0).toArray) (ints .u8 a0) rfl s0_e0 rfl hp ?_
  intro g1 w hbg1 hp
  refine k_box (v := .agg (ints .u8 a1).toArray) (ints .u8 a1) rfl s1_e0 rfl hp ?_
  intro g2 w hbg2 hp
  refine k_assign (v := .bool false) rfl rfl ?_
  refine k_end ?_; intro e333 qe333
  have s2_e333 : e333 2 = .pointer (some ⟨g1, 0, none⟩) := congrFun qe333 2
  have s3_e333 : e333 3 = .pointer (some ⟨g2, 0, none⟩) := congrFun qe333 3
  clear qe333
  refine wseqP (p0 := [1, 0]) (p1 := [1, 1]) rfl rfl rfl ?_
  refine wseqP (p0 := [1, 0, 0]) (p1 := [1, 0, 1]) rfl rfl rfl ?_
  refine wregionT postilionlaw08_XdhMuls.o2 (.ef 0 (.tp 1 (.done))) [] rfl rfl (by kernel_rfl) (by kernel_rfl) ?_
  obtain ⟨r3, qr3, h⟩ := bd_e h
  refine k_call [] rfl (by kernel_rfl) (args0 ) (postilionlaw08_awake_ok k   _ (hp.toR (fun _ h => by cases h)) qr3) ?_
  rintro _ w' ⟨_, rfl, rfl, hpc⟩
  refine ⟨_, rfl, .inr (.of_below hpc.chg.to_below), ?_⟩; have hp := hp.below hpc.chg.to_below; clear hpc
  refine k_not (b := r3) rfl rfl ?_
  refine k_end ?_; intro e334 qe334
  have s2_e334 : e334 2 = .pointer (some ⟨g1, 0, none⟩) := (congrFun qe334 2).trans s2_e333
  have s3_e334 : e334 3 = .pointer (some ⟨g2, 0, none⟩) := (congrFun qe334 3).trans s3_e333
  have s10_e334 : e334 10 = .bool (!r3) := congrFun qe334 10
  clear qe334
  refine wcondP (p0 := [1, 0, 1, 0]) (p1 := [1, 0, 1, 1]) (t := (!r3)) rfl rfl rfl (by decide) s10_e334 (fun hb => ?_) (fun hb => ?_)
  · replace h := br_t hb h
    refine wseqP (p0 := [1, 0, 1, 0, 0]) (p1 := [1, 0, 1, 0, 1]) rfl rfl rfl ?_
    refine wregionT postilionlaw08_XdhMuls.o3 (.tp 0 (.done)) [] rfl rfl (by kernel_rfl) (by kernel_rfl) ?_
    refine k_assign (v := .bool false) rfl rfl ?_
    refine k_end ?_; intro e335 qe335
    have s4_e335 : e335 4 = .bool false := congrFun qe335 4
    clear qe335
    refine wret rfl ?_
    have hr : r = false := (Option.some.inj h).symm
    show RetP _ _ _ _ _
    rw [hr]
    exact ret_i [.bool false] (res_tmp s4_e335 res_nil) ⟨rfl, hp.none⟩
  · replace h := br_f hb h
    refine wskip rfl ?_
    refine wseqP (p0 := [1, 1, 0]) (p1 := [1, 1, 1]) rfl rfl rfl ?_
    refine wregionT postilionlaw08_XdhMuls.o4 (.tk 0 (.tk 1 (.ef 2 (.tp 3 (.tp 4 (.tp 5 (.ef 6 (.ef 7 (.tp 8 (.done)))))))))) [7] rfl rfl (by kernel_rfl) (by kernel_rfl) ?_
    refine k_loadA (n := 32) (xs := ints .u8 a0) 0 rfl (by kernel_rfl) (by kernel_rfl) s2_e334 (hp.get (j := 0) rfl) rfl rfl ((ints_length _ _).trans la0) (fun m v hm => by rw [Nat.zero_add]; exact hm) ?_
    refine k_loadA (n := 32) (xs := ints .u8 a1) 0 rfl (by kernel_rfl) (by kernel_rfl) s3_e334 (hp.get (j := 1) rfl) rfl rfl ((ints_length _ _).trans la1) (fun m v hm => by rw [Nat.zero_add]; exact hm) ?_
    obtain ⟨r4, qr4, h⟩ := bd_e h
    refine k_call [.agg (ints .u8 a0).toArray, .agg (ints .u8 a1).toArray] rfl (by kernel_rfl) (args2 rfl rfl) (xdh_Shared_ok k a0 a1 la0 la1 _ (hp.toR (fun _ h => by cases h)) qr4) ?_
    rintro _ w' ⟨_, rfl, rfl, lr40, hpc⟩
    refine ⟨_, rfl, .inr (.of_below hpc.chg.to_below), ?_⟩; have hp := hp.below hpc.chg.to_below; clear hpc
    refine k_move (v := .tuple #[.agg (ints .u8 r4.1).toArray, .int .i64 r4.2]) rfl rfl ?_
    refine k_extract (v := .agg (ints .u8 r4.1).toArray) rfl rfl rfl ?_
    refine k_extract (v := .int .i64 r4.2) rfl rfl rfl ?_
    refine k_alloc (ints .u8 (List.replicate 32 (0 : Int))) rfl (by kernel_rfl) hp ?_
    intro g5 w hbg5 hp
    refine k_storeA (v := .agg (ints .u8 r4.1).toArray) 2 0 (r := ⟨g5, 0, ints .u8 (List.replicate 32 (0 : Int))⟩) (ints .u8 r4.1) (ints .u8 r4.1) rfl (n := 32) (by kernel_rfl) rfl rfl rfl ((ints_length _ _).trans lr40) (ints_one _ _) hp rfl rfl rfl (Nat.le_of_eq ((Nat.zero_add _).trans ((ints_length _ _).trans List.length_replicate).symm)) (setMany_all _ _ (((ints_length _ _).trans lr40).trans ((ints_length _ _).trans List.length_replicate).symm)) (by decide) ?_; intro w hp
    refine k_assign (v := .int .i64 r4.2) rfl rfl ?_
    refine k_end ?_; intro e336 qe336
    have s2_e336 : e336 2 = .pointer (some ⟨g1, 0, none⟩) := (congrFun qe336 2).trans s2_e334
    have s3_e336 : e336 3 = .pointer (some ⟨g2, 0, none⟩) := (congrFun qe336 3).trans s3_e334
    have s5_e336 : e336 5 = .pointer (some ⟨g5, 0, none⟩) := congrFun qe336 5
    obtain ⟨x6, qx6, h⟩ := lt_e h
    have s6_e336 : e336 6 = .int .i64 x6 := (congrFun qe336 6).trans (congrArg (Value.int .i64) qx6.symm)
    clear qe336
    refine wseqP (p0 := [1, 1, 1, 0]) (p1 := [1, 1, 1, 1]) rfl rfl rfl ?_
    refine wregionT postilionlaw08_XdhMuls.o5 (.tk 0 (.tk 1 (.ef 2 (.tp 3 (.tp 4 (.tp 5 (.ef 6 (.ef 7 (.tp 8 (.done)))))))))) [7] rfl rfl (by kernel_rfl) (by kernel_rfl) ?_
    refine k_loadA (n := 32) (xs := ints .u8 a0) 0 rfl (by kernel_rfl) (by kernel_rfl) s2_e336 (hp.get (j := 0) rfl) rfl rfl ((ints_length _ _).trans la0) (fun m v hm => by rw [Nat.zero_add]; exact hm) ?_
    refine k_loadA (n := 32) (xs := ints .u8 a1) 0 rfl (by kernel_rfl) (by kernel_rfl) s3_e336 (hp.get (j := 1) rfl) rfl rfl ((ints_length _ _).trans la1) (fun m v hm => by rw [Nat.zero_add]; exact hm) ?_
    obtain ⟨r7, qr7, h⟩ := bd_e h
    refine k_call [.agg (ints .u8 a0).toArray, .agg (ints .u8 a1).toArray] rfl (by kernel_rfl) (args2 rfl rfl) (postilionref03_Shared_ok k a0 a1 la0 la1 _ (hp.toR (fun _ h => by cases h)) qr7) ?_
    rintro _ w' ⟨_, rfl, rfl, lr70, hpc⟩
    refine ⟨_, rfl, .inr (.of_below hpc.chg.to_below), ?_⟩; have hp := hp.below hpc.chg.to_below; clear hpc
    refine k_move (v := .tuple #[.agg (ints .u8 r7.1).toArray, .int .i64 r7.2]) rfl rfl ?_
    refine k_extract (v := .agg (ints .u8 r7.1).toArray) rfl rfl rfl ?_
    refine k_extract (v := .int .i64 r7.2) rfl rfl rfl ?_
    refine k_alloc (ints .u8 (List.replicate 32 (0 : Int))) rfl (by kernel_rfl) hp ?_
    intro g8 w hbg8 hp
    refine k_storeA (v := .agg (ints .u8 r7.1).toArray) 3 0 (r := ⟨g8, 0, ints .u8 (List.replicate 32 (0 : Int))⟩) (ints .u8 r7.1) (ints .u8 r7.1) rfl (n := 32) (by kernel_rfl) rfl rfl rfl ((ints_length _ _).trans lr70) (ints_one _ _) hp rfl rfl rfl (Nat.le_of_eq ((Nat.zero_add _).trans ((ints_length _ _).trans List.length_replicate).symm)) (setMany_all _ _ (((ints_length _ _).trans lr70).trans ((ints_length _ _).trans List.length_replicate).symm)) (by decide) ?_; intro w hp
    refine k_assign (v := .int .i64 r7.2) rfl rfl ?_
    refine k_end ?_; intro e337 qe337
    have s2_e337 : e337 2 = .pointer (some ⟨g1, 0, none⟩) := (congrFun qe337 2).trans s2_e336
    have s3_e337 : e337 3 = .pointer (some ⟨g2, 0, none⟩) := (congrFun qe337 3).trans s3_e336
    have s5_e337 : e337 5 = .pointer (some ⟨g5, 0, none⟩) := (congrFun qe337 5).trans s5_e336
    have s6_e337 : e337 6 = .int .i64 x6 := (congrFun qe337 6).trans s6_e336
    have s7_e337 : e337 7 = .pointer (some ⟨g8, 0, none⟩) := congrFun qe337 7
    obtain ⟨x9, qx9, h⟩ := lt_e h
    have s8_e337 : e337 8 = .int .i64 x9 := (congrFun qe337 8).trans (congrArg (Value.int .i64) qx9.symm)
    clear qe337
    refine wseqP (p0 := [1, 1, 1, 1, 0]) (p1 := [1, 1, 1, 1, 1]) rfl rfl rfl ?_
    obtain ⟨r14, qr14, h⟩ := bd_e h
    refine postilionlaw08_XdhMuls.p1_ok k g1 g2 g5 g8 x6 x9 a0 a1 r4 r7 la0 la1 lr40 lr70 ?hq0 e337 _ s2_e337 s3_e337 s5_e337 s6_e337 s7_e337 s8_e337 hp qr14
    case hq0 =>
      intro e342 w m15  s4_e342 hp qq
      rw [qq] at h; clear qq
      refine wret rfl ?_
      have hr : r = m15 := (Option.some.inj h).symm
      show RetP _ _ _ _ _
      rw [hr]
      exact ret_i [.bool m15] (res_tmp s4_e342 res_nil) ⟨rfl, hp.none⟩
/-! 17 postilion/postilionref04.Sub -/
noncomputable def postilionref04_Sub.o1 : Array Oper := opsC (at_ (fbody Try.f17) [0])
noncomputable def postilionref04_Sub.o2 : Array Oper := opsC (at_ (fbody Try.f17) [1, 0])
theorem postilionref04_Sub_ok (k : Nat) (a0 : List Int) (a1 : List Int) (la0 : a0.length = 32) (la1 : a1.length = 32) (w0 : World) (hp : Hp w0 [] w0 [] []) {r : List Int} (h : postilionref04_Sub.f k a0 a1 = some r) :
    Calls Try.prog 17 [.agg (ints .u8 a0).toArray, .agg (ints .u8 a1).toArray].toArray w0 fun x w' => ∃ v, x = .returned v ∧ v = .agg (ints .u8 r).toArray ∧ r.length = 32 ∧ Hp w0 [] w' [] [] := by
  refine calls_inP Try.func17 rfl (Nat.le_of_ble_eq_true (by kernel_rfl)) (by kernel_rfl) ?_
  intro e0 qe0
  have s0_e0 : e0 0 = .agg (ints .u8 a0).toArray := congrFun qe0 0
  have s1_e0 : e0 1 = .agg (ints .u8 a1).toArray := congrFun qe0 1
  clear qe0
  unfold postilionref04_Sub.f at h
  refine wseqP (p0 := [0]) (p1 := [1]) rfl rfl rfl ?_
  refine wregionT postilionref04_Sub.o1 (.ef 0 (.ef 1 (.ef 2 (.done)))) [] rfl rfl (by kernel_rfl) (by kernel_rfl) ?_
  refine k_box (v := .agg (ints .u8 a0).toArray) (ints .u8 a0) rfl s0_e0 rfl hp ?_
  intro g1 w hbg1 hp
  refine k_box (v := .agg (ints .u8 a1).toArray) (ints .u8 a1) rfl s1_e0 rfl hp ?_
  intro g2 w hbg2 hp
  refine k_alloc (ints .u8 (List.replicate 32 (0 : Int))) rfl (by kernel_rfl) hp ?_
  intro g3 w hbg3 hp
  refine k_end ?_; intro e343 qe343
  have s2_e343 : e343 2 = .pointer (some ⟨g1, 0, none⟩) := congrFun qe343 2
  have s3_e343 : e343 3 = .pointer (some ⟨g2, 0, none⟩) := congrFun qe343 3
  have s4_e343 : e343 4 = .pointer (some ⟨g3, 0, none⟩) := congrFun qe343 4
  clear qe343
  refine wseqP (p0 := [1, 0]) (p1 := [1, 1]) rfl rfl rfl ?_
  refine wregionM postilionref04_Sub.o2 (.tk 0 (.tk 2 (.ef 1 (.ef 3 (.ef 4 (.ef 5 (.ef 6 (.done)))))))) [6] [(0, 0, 0), (1, 127, 127), (0, 0, 0), (6, 127, 127), (10, 127, 127), (16, 127, 127), (63, 127, 127)] rfl rfl (by kernel_rfl) (by kernel_rfl) (Nat.le_of_ble_eq_true (by kernel_rfl)) (by kernel_rfl) (by kernel_rfl) (by kernel_rfl) ?_
  have hp := hp.drew
  refine k_loadA (n := 32) (xs := ints .u8 a0) 0 rfl (by kernel_rfl) (by kernel_rfl) s2_e343 (hp.get (j := 0) rfl) rfl rfl ((ints_length _ _).trans la0) (fun m v hm => by rw [Nat.zero_add]; exact hm) ?_
  refine k_loadA (n := 32) (xs := ints .u8 a1) 0 rfl (by kernel_rfl) (by kernel_rfl) s3_e343 (hp.get (j := 1) rfl) rfl rfl ((ints_length _ _).trans la1) (fun m v hm => by rw [Nat.zero_add]; exact hm) ?_
  obtain ⟨r4, qr4, h⟩ := bd_e h
  refine k_call [.agg (ints .u8 a0).toArray] rfl (by kernel_rfl) (args1 rfl) (postilionref04_From_ok k a0 la0 _ (hp.toR (fun _ h => by cases h)) qr4) ?_
  rintro _ w' ⟨_, rfl, rfl, lr40, hpc⟩
  refine ⟨_, rfl, .inr (.of_below hpc.chg.to_below), ?_⟩; have hp := hp.below hpc.chg.to_below; clear hpc
  obtain ⟨r5, qr5, h⟩ := bd_e h
  refine k_call [.agg (ints .u8 a1).toArray] rfl (by kernel_rfl) (args1 rfl) (postilionref04_From_ok k a1 la1 _ (hp.toR (fun _ h => by cases h)) qr5) ?_
  rintro _ w' ⟨_, rfl, rfl, lr50, hpc⟩
  refine ⟨_, rfl, .inr (.of_below hpc.chg.to_below), ?_⟩; have hp := hp.below hpc.chg.to_below; clear hpc
  obtain ⟨r6, qr6, h⟩ := bd_e h
  refine k_call [.agg (ints .u64 r4).toArray, .agg (ints .u64 r5).toArray] rfl (by kernel_rfl) (args2 rfl rfl) (postilionref04_Minus_ok k r4 r5 lr40 lr50 _ (hp.toR (fun _ h => by cases h)) qr6) ?_
  rintro _ w' ⟨_, rfl, rfl, lr60, hpc⟩
  refine ⟨_, rfl, .inr (.of_below hpc.chg.to_below), ?_⟩; have hp := hp.below hpc.chg.to_below; clear hpc
  obtain ⟨r7, qr7, h⟩ := bd_e h
  refine k_call [.agg (ints .u64 r6).toArray] rfl (by kernel_rfl) (args1 rfl) (postilionref04_Bytes_ok k r6 lr60 _ (hp.toR (fun _ h => by cases h)) qr7) ?_
  rintro _ w' ⟨_, rfl, rfl, lr70, hpc⟩
  refine ⟨_, rfl, .inr (.of_below hpc.chg.to_below), ?_⟩; have hp := hp.below hpc.chg.to_below; clear hpc
  refine k_storeA (v := .agg (ints .u8 r7).toArray) 2 0 (r := ⟨g3, 0, ints .u8 (List.replicate 32 (0 : Int))⟩) (ints .u8 r7) (ints .u8 r7) rfl (n := 32) (by kernel_rfl) s4_e343 rfl rfl ((ints_length _ _).trans lr70) (ints_one _ _) hp rfl rfl rfl (Nat.le_of_eq ((Nat.zero_add _).trans ((ints_length _ _).trans List.length_replicate).symm)) (setMany_all _ _ (((ints_length _ _).trans lr70).trans ((ints_length _ _).trans List.length_replicate).symm)) (by decide) ?_; intro w hp
  refine k_end ?_; intro e344 qe344
  have s4_e344 : e344 4 = .pointer (some ⟨g3, 0, none⟩) := (congrFun qe344 4).trans s4_e343
  clear qe344
  refine wret rfl ?_
  have hr : r = r7 := (Option.some.inj h).symm
  show RetP _ _ _ _ _
  rw [hr]
  exact ret_i [.agg (ints .u8 r7).toArray] (res_cell s4_e344 (loadVar_agg (by kernel_rfl) (by kernel_rfl) ((ints_length _ _).trans lr70) (hp.get (j := 2) rfl) rfl rfl rfl) res_nil) ⟨rfl, lr70, hp.none⟩
/-! 7 postilion/postilionlaw08.XdhSmall -/
noncomputable def postilionlaw08_XdhSmall.o1 : Array Oper := opsC (at_ (fbody Try.f7) [0])
noncomputable def postilionlaw08_XdhSmall.o2 : Array Oper := opsC (at_ (fbody Try.f7) [1, 0, 0])
noncomputable def postilionlaw08_XdhSmall.o3 : Array Oper := opsC (at_ (fbody Try.f7) [1, 0, 1, 0, 0])
noncomputable def postilionlaw08_XdhSmall.o4 : Array Oper := opsC (at_ (fbody Try.f7) [1, 1, 0])
noncomputable def postilionlaw08_XdhSmall.o5 : Array Oper := opsC (at_ (fbody Try.f7) [1, 1, 1, 0, 0])
noncomputable def postilionlaw08_XdhSmall.o6 : Array Oper := opsC (at_ (fbody Try.f7) [1, 1, 1, 0, 1, 0])
noncomputable def postilionlaw08_XdhSmall.o7 : Array Oper := opsC (at_ (fbody Try.f7) [1, 1, 1, 1, 0])
noncomputable def postilionlaw08_XdhSmall.o8 : Array Oper := opsC (at_ (fbody Try.f7) [1, 1, 1, 1, 1, 0])
theorem postilionlaw08_XdhSmall.p1_ok {w0 : World} {Ws : List Wr} {Q : Exit → Env → World → Prop} (k : Nat) (g1 g3 : Nat) (a1 : Int) (a0 : List Int) (la0 : a0.length = 32) {r : List Int} (hQ0 : ∀ (e' : Env) (w' : World) (z0 : List Int), z0.length = 32 → e' 2 = .pointer (some ⟨g1, 0, none⟩) → e' 5 = .pointer (some ⟨g3, 0, none⟩) → Hp w0 Ws w' [⟨g1, 0, ints .u8 a0⟩, ⟨g3, 0, ints .u8 z0⟩] [] → r = (z0) → Q .normal e' w') (e : Env) (w : World) (s2_e : e 2 = .pointer (some ⟨g1, 0, none⟩)) (s5_e : e 5 = .pointer (some ⟨g3, 0, none⟩)) (s15_e : e 15 = .bool ((Int.tmod a1 3) == 2)) (hp : Hp w0 Ws w [⟨g1, 0, ints .u8 a0⟩, ⟨g3, 0, ints .u8 ((List.replicate 32 (0 : Int)).set 0 (Int.tmod a1 2))⟩] []) (h : postilionlaw08_XdhSmall.p1 k a1 = some r) : Wp Try.prog Try.f7.ntmps (at_ (fbody Try.f7) [1, 1, 1, 0, 1]) Q e w := by
  unfold postilionlaw08_XdhSmall.p1 at h
  refine wcondP (p0 := [1, 1, 1, 0, 1, 0]) (p1 := [1, 1, 1, 0, 1, 1]) (t := ((Int.tmod a1 3) == 2)) rfl rfl rfl (by decide) s15_e (fun hb => ?_) (fun hb => ?_)
  · replace h := br_t hb h
    refine wregionT postilionlaw08_XdhSmall.o6 (.tp 0 (.tp 1 (.ef 2 (.ef 3 (.done))))) [3] rfl rfl (by kernel_rfl) (by kernel_rfl) ?_
    refine k_build (v := .agg (ints .u8 (List.replicate 32 (0 : Int))).toArray) rfl (fun _ => by kernel_rfl) ?_
    refine k_build (v := .agg (ints .u8 ((List.replicate 32 (0 : Int)).set 0 1)).toArray) rfl (fun _ => by kernel_rfl) ?_
    obtain ⟨r4, qr4, h⟩ := bd_e h
    refine k_call [.agg (ints .u8 (List.replicate 32 (0 : Int))).toArray, .agg (ints .u8 ((List.replicate 32 (0 : Int)).set 0 1)).toArray] rfl (by kernel_rfl) (args2 rfl rfl) (postilionref04_Sub_ok k (List.replicate 32 (0 : Int)) ((List.replicate 32 (0 : Int)).set 0 1) List.length_replicate (List.length_set.trans List.length_replicate) _ (hp.toR (fun _ h => by cases h)) qr4) ?_
    rintro _ w' ⟨_, rfl, rfl, lr40, hpc⟩
    refine ⟨_, rfl, .inr (.of_below hpc.chg.to_below), ?_⟩; have hp := hp.below hpc.chg.to_below; clear hpc
    refine k_storeA (v := .agg (ints .u8 r4).toArray) 1 0 (r := ⟨g3, 0, ints .u8 ((List.replicate 32 (0 : Int)).set 0 (Int.tmod a1 2))⟩) (ints .u8 r4) (ints .u8 r4) rfl (n := 32) (by kernel_rfl) s5_e rfl rfl ((ints_length _ _).trans lr40) (ints_one _ _) hp rfl rfl rfl (Nat.le_of_eq ((Nat.zero_add _).trans ((ints_length _ _).trans (List.length_set.trans List.length_replicate)).symm)) (setMany_all _ _ (((ints_length _ _).trans lr40).trans ((ints_length _ _).trans (List.length_set.trans List.length_replicate)).symm)) (by decide) ?_; intro w hp
    refine k_end ?_; intro e350 qe350
    have s2_e350 : e350 2 = .pointer (some ⟨g1, 0, none⟩) := (congrFun qe350 2).trans s2_e
    have s5_e350 : e350 5 = .pointer (some ⟨g3, 0, none⟩) := (congrFun qe350 5).trans s5_e
    clear qe350
    exact hQ0 _ _ r4 lr40 s2_e350 s5_e350 (hp.drop (L' := [⟨g1, 0, ints .u8 a0⟩, ⟨g3, 0, ints .u8 r4⟩]) (List.Sublist.refl _)) (Option.some.inj h).symm
  · replace h := br_f hb h
    refine wskip rfl ?_
    exact hQ0 _ _ ((List.replicate 32 (0 : Int)).set 0 (Int.tmod a1 2)) (List.length_set.trans List.length_replicate) s2_e s5_e (hp.drop (L' := [⟨g1, 0, ints .u8 a0⟩, ⟨g3, 0, ints .u8 ((List.replicate 32 (0 : Int)).set 0 (Int.tmod a1 2))⟩]) (List.Sublist.refl _)) (Option.some.inj h).symm
theorem postilionlaw08_XdhSmall.p2_ok {w0 : World} {Ws : List Wr} {Q : Exit → Env → World → Prop} (g1 g3 g8 : Nat) (x9 : Int) (a0 : List Int) (m6 : List Int) (r7 : List Int × Int) (la0 : a0.length = 32) (lm6 : m6.length = 32) (lr70 : r7.1.length = 32) {r : Bool} (hQ0 : ∀ (e' : Env) (w' : World) (z0 : Bool), e' 4 = .bool z0 → Hp w0 Ws w' [⟨g1, 0, ints .u8 a0⟩, ⟨g3, 0, ints .u8 m6⟩, ⟨g8, 0, ints .u8 r7.1⟩] [] → r = (z0) → Q .normal e' w') (e : Env) (w : World) (s6_e : e 6 = .pointer (some ⟨g8, 0, none⟩)) (s7_e : e 7 = .int .i64 x9) (hp : Hp w0 Ws w [⟨g1, 0, ints .u8 a0⟩, ⟨g3, 0, ints .u8 m6⟩, ⟨g8, 0, ints .u8 r7.1⟩] []) (h : postilionlaw08_XdhSmall.p2 x9 r7 = some r) : Wp Try.prog Try.f7.ntmps (at_ (fbody Try.f7) [1, 1, 1, 1, 1, 0]) Q e w := by
  unfold postilionlaw08_XdhSmall.p2 at h
  refine wregionT postilionlaw08_XdhSmall.o8 (.tp 0 (.tp 1 (.tp 2 (.tk 3 (.tp 4 (.tp 5 (.tp 6 (.tp 7 (.done))))))))) [] rfl rfl (by kernel_rfl) (by kernel_rfl) ?_
  refine k_move (v := .int .i64 x9) rfl s7_e ?_
  refine k_bin (X := .int .i64 x9) (Y := .int .i64 2) rfl rfl rfl rfl ?_
  rcases Bool.eq_false_or_eq_true (x9 == 2) with hb | hb
  · replace h := br_t hb h
    refine k_move (v := .bool true) rfl (Eq.trans (b := .bool (x9 == 2)) rfl (congrArg Value.bool hb)) ?_
    refine k_loadA (n := 32) (xs := ints .u8 r7.1) 0 rfl (by kernel_rfl) (by kernel_rfl) s6_e (hp.get (j := 2) rfl) rfl rfl ((ints_length _ _).trans lr70) (fun m v hm => by rw [Nat.zero_add]; exact hm) ?_
    refine k_build (v := .agg (ints .u8 (List.replicate 32 (0 : Int))).toArray) rfl (fun _ => by kernel_rfl) ?_
    refine k_eqI (k := .u8) (l := r7.1) (l' := (List.replicate 32 (0 : Int))) rfl Try.underlying22 Try.underlying5 (by kernel_rfl) (by kernel_rfl) rfl rfl lr70 List.length_replicate ?_
    refine k_pick (b := true) (v := .bool (r7.1 == (List.replicate 32 (0 : Int)))) rfl rfl rfl rfl rfl ?_
    refine k_assign (v := .bool (r7.1 == (List.replicate 32 (0 : Int)))) rfl rfl ?_
    refine k_end ?_; intro e353 qe353
    have s4_e353 : e353 4 = .bool (r7.1 == (List.replicate 32 (0 : Int))) := congrFun qe353 4
    clear qe353
    exact hQ0 _ _ (r7.1 == (List.replicate 32 (0 : Int)))  s4_e353 (hp.drop (L' := [⟨g1, 0, ints .u8 a0⟩, ⟨g3, 0, ints .u8 m6⟩, ⟨g8, 0, ints .u8 r7.1⟩]) (List.Sublist.refl _)) (Option.some.inj h).symm
  · replace h := br_f hb h
    refine k_move (v := .bool false) rfl (Eq.trans (b := .bool (x9 == 2)) rfl (congrArg Value.bool hb)) ?_
    refine k_skip_tk rfl ?_
    refine k_skip rfl ?_
    refine k_skip rfl ?_
    refine k_pick (b := false) (v := .bool false) rfl rfl rfl rfl rfl ?_
    refine k_assign (v := .bool false) rfl rfl ?_
    refine k_end ?_; intro e354 qe354
    have s4_e354 : e354 4 = .bool false := congrFun qe354 4
    clear qe354
    exact hQ0 _ _ false  s4_e354 (hp.drop (L' := [⟨g1, 0, ints .u8 a0⟩, ⟨g3, 0, ints .u8 m6⟩, ⟨g8, 0, ints .u8 r7.1⟩]) (List.Sublist.refl _)) (Option.some.inj h).symm
theorem postilionlaw08_XdhSmall_ok (k : Nat) (a0 : List Int) (a1 : Int) (la0 : a0.length = 32) (w0 : World) (hp : Hp w0 [] w0 [] []) {r : Bool} (h : postilionlaw08_XdhSmall.f k a0 a1 = some r) :
    Calls Try.prog 7 [.agg (ints .u8 a0).toArray, .int .u8 a1].toArray w0 fun x w' => ∃ v, x = .returned v ∧ v = .bool r ∧ Hp w0 [] w' [] [] := by
  refine calls_inP Try.func7 rfl (Nat.le_of_ble_eq_true (by kernel_rfl)) (by kernel_rfl) ?_
  intro e0 qe0
  have s0_e0 : e0 0 = .agg (ints .u8 a0).toArray := congrFun qe0 0
  have s1_e0 : e0 1 = .int .u8 a1 := congrFun qe0 1
  clear qe0
  unfold postilionlaw08_XdhSmall.f at h
  refine wseqP (p0 := [0]) (p1 := [1]) rfl rfl rfl ?_
  refine wregionT postilionlaw08_XdhSmall.o1 (.ef 0 (.tp 1 (.done))) [] rfl rfl (by kernel_rfl) (by kernel_rfl) ?_
  refine k_box (v := .agg (ints .u8 a0).toArray) (ints .u8 a0) rfl s0_e0 rfl hp ?_
  intro g1 w hbg1 hp
  refine k_assign (v := .bool false) rfl rfl ?_
  refine k_end ?_; intro e345 qe345
  have s1_e345 : e345 1 = .int .u8 a1 := (congrFun qe345 1).trans s1_e0
  have s2_e345 : e345 2 = .pointer (some ⟨g1, 0, none⟩) := congrFun qe345 2
  clear qe345
  refine wseqP (p0 := [1, 0]) (p1 := [1, 1]) rfl rfl rfl ?_
  refine wseqP (p0 := [1, 0, 0]) (p1 := [1, 0, 1]) rfl rfl rfl ?_
  refine wregionT postilionlaw08_XdhSmall.o2 (.ef 0 (.tp 1 (.done))) [] rfl rfl (by kernel_rfl) (by kernel_rfl) ?_
  obtain ⟨r2, qr2, h⟩ := bd_e h
  refine k_call [] rfl (by kernel_rfl) (args0 ) (postilionlaw08_awake_ok k   _ (hp.toR (fun _ h => by cases h)) qr2) ?_
  rintro _ w' ⟨_, rfl, rfl, hpc⟩
  refine ⟨_, rfl, .inr (.of_below hpc.chg.to_below), ?_⟩; have hp := hp.below hpc.chg.to_below; clear hpc
  refine k_not (b := r2) rfl rfl ?_
  refine k_end ?_; intro e346 qe346
  have s1_e346 : e346 1 = .int .u8 a1 := (congrFun qe346 1).trans s1_e345
  have s2_e346 : e346 2 = .pointer (some ⟨g1, 0, none⟩) := (congrFun qe346 2).trans s2_e345
  have s9_e346 : e346 9 = .bool (!r2) := congrFun qe346 9
  clear qe346
  refine wcondP (p0 := [1, 0, 1, 0]) (p1 := [1, 0, 1, 1]) (t := (!r2)) rfl rfl rfl (by decide) s9_e346 (fun hb => ?_) (fun hb => ?_)
  · replace h := br_t hb h
    refine wseqP (p0 := [1, 0, 1, 0, 0]) (p1 := [1, 0, 1, 0, 1]) rfl rfl rfl ?_
    refine wregionT postilionlaw08_XdhSmall.o3 (.tp 0 (.done)) [] rfl rfl (by kernel_rfl) (by kernel_rfl) ?_
    refine k_assign (v := .bool false) rfl rfl ?_
    refine k_end ?_; intro e347 qe347
    have s4_e347 : e347 4 = .bool false := congrFun qe347 4
    clear qe347
    refine wret rfl ?_
    have hr : r = false := (Option.some.inj h).symm
    show RetP _ _ _ _ _
    rw [hr]
    exact ret_i [.bool false] (res_tmp s4_e347 res_nil) ⟨rfl, hp.none⟩
  · replace h := br_f hb h
    refine wskip rfl ?_
    refine wseqP (p0 := [1, 1, 0]) (p1 := [1, 1, 1]) rfl rfl rfl ?_
    refine wregionT postilionlaw08_XdhSmall.o4 (.tp 0 (.tp 1 (.tp 2 (.ef 3 (.ef 4 (.done)))))) [4] rfl rfl (by kernel_rfl) (by kernel_rfl) ?_
    refine k_move (v := .int .u8 a1) rfl s1_e346 ?_
    refine k_rem (a := a1) (b := 2) rfl rfl rfl (by decide) ?_
    refine k_build (v := .agg (ints .u8 ((List.replicate 32 (0 : Int)).set 0 (Int.tmod a1 2))).toArray) rfl (fun _ => by kernel_rfl) ?_
    refine k_alloc (ints .u8 (List.replicate 32 (0 : Int))) rfl (by kernel_rfl) hp ?_
    intro g3 w hbg3 hp
    refine k_storeA (v := .agg (ints .u8 ((List.replicate 32 (0 : Int)).set 0 (Int.tmod a1 2))).toArray) 1 0 (r := ⟨g3, 0, ints .u8 (List.replicate 32 (0 : Int))⟩) (ints .u8 ((List.replicate 32 (0 : Int)).set 0 (Int.tmod a1 2))) (ints .u8 ((List.replicate 32 (0 : Int)).set 0 (Int.tmod a1 2))) rfl (n := 32) (by kernel_rfl) rfl rfl rfl ((ints_length _ _).trans (List.length_set.trans List.length_replicate)) (ints_one _ _) hp rfl rfl rfl (Nat.le_of_eq ((Nat.zero_add _).trans ((ints_length _ _).trans List.length_replicate).symm)) (setMany_all _ _ (((ints_length _ _).trans (List.length_set.trans List.length_replicate)).trans ((ints_length _ _).trans List.length_replicate).symm)) (by decide) ?_; intro w hp
    refine k_end ?_; intro e348 qe348
    have s1_e348 : e348 1 = .int .u8 a1 := (congrFun qe348 1).trans s1_e346
    have s2_e348 : e348 2 = .pointer (some ⟨g1, 0, none⟩) := (congrFun qe348 2).trans s2_e346
    have s5_e348 : e348 5 = .pointer (some ⟨g3, 0, none⟩) := congrFun qe348 5
    clear qe348
    refine wseqP (p0 := [1, 1, 1, 0]) (p1 := [1, 1, 1, 1]) rfl rfl rfl ?_
    refine wseqP (p0 := [1, 1, 1, 0, 0]) (p1 := [1, 1, 1, 0, 1]) rfl rfl rfl ?_
    refine wregionT postilionlaw08_XdhSmall.o5 (.tp 0 (.tp 1 (.tp 2 (.done)))) [] rfl rfl (by kernel_rfl) (by kernel_rfl) ?_
    refine k_move (v := .int .u8 a1) rfl s1_e348 ?_
    refine k_rem (a := a1) (b := 3) rfl rfl rfl (by decide) ?_
    refine k_bin (X := .int .u8 (Int.tmod a1 3)) (Y := .int .u8 2) rfl rfl rfl rfl ?_
    refine k_end ?_; intro e349 qe349
    have s2_e349 : e349 2 = .pointer (some ⟨g1, 0, none⟩) := (congrFun qe349 2).trans s2_e348
    have s5_e349 : e349 5 = .pointer (some ⟨g3, 0, none⟩) := (congrFun qe349 5).trans s5_e348
    have s15_e349 : e349 15 = .bool ((Int.tmod a1 3) == 2) := congrFun qe349 15
    clear qe349
    obtain ⟨r5, qr5, h⟩ := bd_e h
    refine postilionlaw08_XdhSmall.p1_ok k g1 g3 a1 a0 la0 ?hq0 e349 _ s2_e349 s5_e349 s15_e349 hp qr5
    case hq0 =>
      intro e351 w m6 lm6 s2_e351 s5_e351 hp qq
      rw [qq] at h; clear qq
      refine wseqP (p0 := [1, 1, 1, 1, 0]) (p1 := [1, 1, 1, 1, 1]) rfl rfl rfl ?_
      refine wregionT postilionlaw08_XdhSmall.o7 (.tk 0 (.tk 1 (.ef 2 (.tp 3 (.tp 4 (.tp 5 (.ef 6 (.ef 7 (.tp 8 (.done)))))))))) [7] rfl rfl (by kernel_rfl) (by kernel_rfl) ?_
      refine k_loadA (n := 32) (xs := ints .u8 a0) 0 rfl (by kernel_rfl) (by kernel_rfl) s2_e351 (hp.get (j := 0) rfl) rfl rfl ((ints_length _ _).trans la0) (fun m v hm => by rw [Nat.zero_add]; exact hm) ?_
      refine k_loadA (n := 32) (xs := ints .u8 m6) 0 rfl (by kernel_rfl) (by kernel_rfl) s5_e351 (hp.get (j := 1) rfl) rfl rfl ((ints_length _ _).trans lm6) (fun m v hm => by rw [Nat.zero_add]; exact hm) ?_
      obtain ⟨r7, qr7, h⟩ := bd_e h
      refine k_call [.agg (ints .u8 a0).toArray, .agg (ints .u8 m6).toArray] rfl (by kernel_rfl) (args2 rfl rfl) (xdh_Shared_ok k a0 m6 la0 lm6 _ (hp.toR (fun _ h => by cases h)) qr7) ?_
      rintro _ w' ⟨_, rfl, rfl, lr70, hpc⟩
      refine ⟨_, rfl, .inr (.of_below hpc.chg.to_below), ?_⟩; have hp := hp.below hpc.chg.to_below; clear hpc
      refine k_move (v := .tuple #[.agg (ints .u8 r7.1).toArray, .int .i64 r7.2]) rfl rfl ?_
      refine k_extract (v := .agg (ints .u8 r7.1).toArray) rfl rfl rfl ?_
      refine k_extract (v := .int .i64 r7.2) rfl rfl rfl ?_
      refine k_alloc (ints .u8 (List.replicate 32 (0 : Int))) rfl (by kernel_rfl) hp ?_
      intro g8 w hbg8 hp
      refine k_storeA (v := .agg (ints .u8 r7.1).toArray) 2 0 (r := ⟨g8, 0, ints .u8 (List.replicate 32 (0 : Int))⟩) (ints .u8 r7.1) (ints .u8 r7.1) rfl (n := 32) (by kernel_rfl) rfl rfl rfl ((ints_length _ _).trans lr70) (ints_one _ _) hp rfl rfl rfl (Nat.le_of_eq ((Nat.zero_add _).trans ((ints_length _ _).trans List.length_replicate).symm)) (setMany_all _ _ (((ints_length _ _).trans lr70).trans ((ints_length _ _).trans List.length_replicate).symm)) (by decide) ?_; intro w hp
      refine k_assign (v := .int .i64 r7.2) rfl rfl ?_
      refine k_end ?_; intro e352 qe352
      have s6_e352 : e352 6 = .pointer (some ⟨g8, 0, none⟩) := congrFun qe352 6
      obtain ⟨x9, qx9, h⟩ := lt_e h
      have s7_e352 : e352 7 = .int .i64 x9 := (congrFun qe352 7).trans (congrArg (Value.int .i64) qx9.symm)
      clear qe352
      refine wseqP (p0 := [1, 1, 1, 1, 1, 0]) (p1 := [1, 1, 1, 1, 1, 1]) rfl rfl rfl ?_
      obtain ⟨r10, qr10, h⟩ := bd_e h
      refine postilionlaw08_XdhSmall.p2_ok g1 g3 g8 x9 a0 m6 r7 la0 lm6 lr70 ?hq0 e352 _ s6_e352 s7_e352 hp qr10
      case hq0 =>
        intro e355 w m11  s4_e355 hp qq
        rw [qq] at h; clear qq
        refine wret rfl ?_
        have hr : r = m11 := (Option.some.inj h).symm
        show RetP _ _ _ _ _
        rw [hr]
        exact ret_i [.bool m11] (res_tmp s4_e355 res_nil) ⟨rfl, hp.none⟩
end Go.Proofs.Ytigbkodgnikigaa
