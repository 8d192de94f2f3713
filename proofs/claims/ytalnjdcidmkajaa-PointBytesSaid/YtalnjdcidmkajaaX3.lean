/-
  The walks: each function of the program form returns what its plain definition computes. Printed by my own program.
  Conditions: none; every function is taken as the given program's form has it.
-/
import Derived.Test.YtalnjdcidmkajaaProg
import Derived.Test.YtalnjdcidmkajaaX2
namespace Go.Proofs.Ytalnjdcidmkajaa
open Go Go.Gx Go.RowKit
set_option linter.unusedVariables false
set_option maxRecDepth 100000
/-! 59 (postilion/point.Point).Double -/
noncomputable def point_Point_Double.o1 : Array Oper := opsC (at_ (fbody Try.f59) [0])
noncomputable def point_Point_Double.o2 : Array Oper := opsC (at_ (fbody Try.f59) [1, 0])
noncomputable def point_Point_Double.o3 : Array Oper := opsC (at_ (fbody Try.f59) [1, 1, 0])
noncomputable def point_Point_Double.o4 : Array Oper := opsC (at_ (fbody Try.f59) [1, 1, 1, 0])
noncomputable def point_Point_Double.o5 : Array Oper := opsC (at_ (fbody Try.f59) [1, 1, 1, 1, 0])
noncomputable def point_Point_Double.o6 : Array Oper := opsC (at_ (fbody Try.f59) [1, 1, 1, 1, 1, 0])
noncomputable def point_Point_Double.o7 : Array Oper := opsC (at_ (fbody Try.f59) [1, 1, 1, 1, 1, 1, 0])
noncomputable def point_Point_Double.o8 : Array Oper := opsC (at_ (fbody Try.f59) [1, 1, 1, 1, 1, 1, 1, 0])
noncomputable def point_Point_Double.o9 : Array Oper := opsC (at_ (fbody Try.f59) [1, 1, 1, 1, 1, 1, 1, 1, 0])
noncomputable def point_Point_Double.o10 : Array Oper := opsC (at_ (fbody Try.f59) [1, 1, 1, 1, 1, 1, 1, 1, 1, 0])
set_option maxHeartbeats 4000000 in
theorem point_Point_Double_ok (k : Nat) (a0 : List Int) (la0 : a0.length = 20) (w0 : World) (hp : Hp w0 [] w0 [] []) {r : List Int} (h : point_Point_Double.f k a0 = some r) :
    Calls Try.prog 59 [.agg (ints .u64 a0).toArray].toArray w0 fun x w' => ∃ v, x = .returned v ∧ v = .agg (ints .u64 r).toArray ∧ r.length = 20 ∧ Hp w0 [] w' [] [] := by
  refine calls_inP Try.func59 rfl (Nat.le_of_ble_eq_true (by kernel_rfl)) (by kernel_rfl) ?_
  intro e0 qe0
  have s0_e0 : e0 0 = .agg (ints .u64 a0).toArray := congrFun qe0 0
  clear qe0
  unfold point_Point_Double.f at h
  refine wseqP (p0 := [0]) (p1 := [1]) rfl rfl rfl ?_
  refine wregionT point_Point_Double.o1 (.ef 0 (.ef 1 (.done))) [] rfl rfl (by kernel_rfl) (by kernel_rfl) ?_
  refine k_box (v := .agg (ints .u64 a0).toArray) (ints .u64 a0) rfl s0_e0 rfl hp ?_
  intro g1 w hbg1 hp
  refine k_alloc (ints .u64 (List.replicate 20 (0 : Int))) rfl (by kernel_rfl) hp ?_
  intro g2 w hbg2 hp
  refine k_end ?_; intro e191 qe191
  have s1_e191 : e191 1 = .pointer (some ⟨g1, 0, none⟩) := congrFun qe191 1
  have s2_e191 : e191 2 = .pointer (some ⟨g2, 0, none⟩) := congrFun qe191 2
  clear qe191
  refine wseqP (p0 := [1, 0]) (p1 := [1, 1]) rfl rfl rfl ?_
  obtain ⟨r3, qr3, h⟩ := bd_e h
  obtain ⟨r4, qr4, h⟩ := bd_e h
  refine wcut (fun e192 w2 => ∃ g5 g6 : Nat, (((r3.length = 5 ∧ r4.length = 5) ∧ e192 1 = .pointer (some ⟨g1, 0, none⟩)) ∧ ((e192 2 = .pointer (some ⟨g2, 0, none⟩) ∧ e192 3 = .pointer (some ⟨g5, 0, none⟩)) ∧ e192 4 = .pointer (some ⟨g6, 0, none⟩))) ∧ Hp w0 [] w2 [⟨g1, 0, ints .u64 a0⟩, ⟨g2, 0, ints .u64 (List.replicate 20 (0 : Int))⟩, ⟨g5, 0, ints .u64 r3⟩, ⟨g6, 0, ints .u64 r4⟩] []) ?_ ?_
  rotate_left
  · refine wregionM point_Point_Double.o2 (.tp 0 (.tk 1 (.tp 2 (.tk 3 (.tp 5 (.tp 7 (.rest 175 8))))))) [12, 13] [(0, 0, 16383), (1, 1, 0), (0, 0, 16383), (4, 4, 0), (10, 16383, 16383), (0, 0, 16383), (32, 16383, 16383), (0, 0, 16383), (128, 16383, 16383), (336, 16383, 16383), (0, 16383, 16383), (0, 16383, 16383), (3615, 16383, 16383), (8191, 16383, 16383)] rfl rfl (by kernel_rfl) (by kernel_rfl) (Nat.le_of_ble_eq_true (by kernel_rfl)) (by kernel_rfl) (by kernel_rfl) (by kernel_rfl) ?_
    have hp := hp.drew
    refine k_fieldAddr (n := 0) rfl (by kernel_rfl) s1_e191 ?_
    refine k_loadA (n := 5) (xs := ints .u64 ((a0.drop 0).take 5)) 0 rfl (by kernel_rfl) (by kernel_rfl) rfl (hp.get (j := 0) rfl) rfl rfl ((ints_length _ _).trans (show List.length ((a0.drop 0).take 5) = 5 from part_len la0 (by decide))) (fun m v hm => part_get hm) ?_
    refine k_fieldAddr (n := 0) rfl (by kernel_rfl) s1_e191 ?_
    refine k_loadA (n := 5) (xs := ints .u64 ((a0.drop 0).take 5)) 0 rfl (by kernel_rfl) (by kernel_rfl) rfl (hp.get (j := 0) rfl) rfl rfl ((ints_length _ _).trans (show List.length ((a0.drop 0).take 5) = 5 from part_len la0 (by decide))) (fun m v hm => part_get hm) ?_
    refine k_fieldAddr (n := 5) rfl (by kernel_rfl) s1_e191 ?_
    refine k_fieldAddr (n := 5) rfl (by kernel_rfl) s1_e191 ?_
    refine k_rest [4, 6, 8, 9, 10, 11, 12, 13] (fun L e w => ∃ g5 g6 : Nat, ∃ c_g5_0 c_g6_1 : List Int, (((((L 4 = true → r3.length = 5) ∧ (L 9 = true → r4.length = 5)) ∧ ((((e 1 = .pointer (some ⟨g1, 0, none⟩) ∧ e 2 = .pointer (some ⟨g2, 0, none⟩)) ∧ e 12 = .agg (ints .u64 ((a0.drop 0).take 5)).toArray) ∧ ((e 14 = .agg (ints .u64 ((a0.drop 0).take 5)).toArray ∧ e 16 = .pointer (some ⟨g1, 0 + 5, none⟩)) ∧ e 18 = .pointer (some ⟨g1, 0 + 5, none⟩))) ∧ (L 4 = true → e 15 = .agg (ints .u64 r3).toArray))) ∧ (((L 6 = true → e 17 = .agg (ints .u64 ((a0.drop 5).take 5)).toArray) ∧ (L 8 = true → e 19 = .agg (ints .u64 ((a0.drop 5).take 5)).toArray)) ∧ ((L 9 = true → e 20 = .agg (ints .u64 r4).toArray) ∧ (L 10 = true → e 3 = .pointer (some ⟨g5, 0, none⟩))))) ∧ ((((L 11 = true → e 4 = .pointer (some ⟨g6, 0, none⟩)) ∧ (L 10 = false → c_g5_0 = ([] : List Int))) ∧ ((L 12 = false → L 10 = true → c_g5_0 = (List.replicate 5 (0 : Int))) ∧ (L 12 = true → c_g5_0 = r3))) ∧ (((L 11 = false → c_g6_1 = ([] : List Int)) ∧ (L 13 = false → L 11 = true → c_g6_1 = (List.replicate 5 (0 : Int)))) ∧ (L 13 = true → c_g6_1 = r4)))) ∧ Hp w0 [] w [⟨g1, 0, ints .u64 a0⟩, ⟨g2, 0, ints .u64 (List.replicate 20 (0 : Int))⟩, ⟨g5, 0, ints .u64 c_g5_0⟩, ⟨g6, 0, ints .u64 c_g6_1⟩] []) (by kernel_rfl) (by kernel_rfl) ?_ ?_ ?_
    have hp := hp.free1 0 0
    have hp := hp.free1 0 0
    · exact ⟨0, 0, ([] : List Int), ([] : List Int), ⟨⟨⟨⟨(fun h => absurd h (by decide)), (fun h => absurd h (by decide))⟩, ⟨⟨⟨⟨s1_e191, s2_e191⟩, rfl⟩, ⟨⟨rfl, rfl⟩, rfl⟩⟩, (fun h => absurd h (by decide))⟩⟩, ⟨⟨(fun h => absurd h (by decide)), (fun h => absurd h (by decide))⟩, ⟨(fun h => absurd h (by decide)), (fun h => absurd h (by decide))⟩⟩⟩, ⟨⟨⟨(fun h => absurd h (by decide)), (fun _ => rfl)⟩, ⟨(fun _ h => absurd h (by decide)), (fun h => absurd h (by decide))⟩⟩, ⟨⟨(fun _ => rfl), (fun _ h => absurd h (by decide))⟩, (fun h => absurd h (by decide))⟩⟩⟩, hp⟩
    · rintro L e w hall ⟨g5, g6, c_g5_0, c_g6_1, hF, hp⟩
      have qc_g5_0 := hF.2.1.2.2 (hall 12 rfl)
      rw [qc_g5_0] at hp
      have qc_g6_1 := hF.2.2.2 (hall 13 rfl)
      rw [qc_g6_1] at hp
      exact onlyN_i ⟨g5, g6, ⟨⟨⟨(hF.1.1.1.1 (hall 4 rfl)), (hF.1.1.1.2 (hall 9 rfl))⟩, hF.1.1.2.1.1.1.1⟩, ⟨⟨hF.1.1.2.1.1.1.2, (hF.1.2.2.2 (hall 10 rfl))⟩, (hF.2.1.1.1 (hall 11 rfl))⟩⟩, hp⟩
    refine allU_cons ?_ ?_
    · rintro L e w hLi hb hcl ⟨g5, g6, c_g5_0, c_g6_1, hF, hp⟩
      refine k_call [.agg (ints .u64 ((a0.drop 0).take 5)).toArray, .agg (ints .u64 ((a0.drop 0).take 5)).toArray] rfl (by kernel_rfl) (args2 hF.1.1.2.1.1.2 hF.1.1.2.1.2.1.1) (field_Element_Times_ok ((a0.drop 0).take 5) ((a0.drop 0).take 5) (show List.length ((a0.drop 0).take 5) = 5 from part_len la0 (by decide)) (show List.length ((a0.drop 0).take 5) = 5 from part_len la0 (by decide)) _ (hp.toR (fun _ h => by cases h)) qr3) ?_
      rintro _ w' ⟨_, rfl, rfl, lr30, hpc⟩
      refine ⟨_, rfl, .inr (.of_below hpc.chg.to_below), ?_⟩; have hp := hp.below hpc.chg.to_below; clear hpc
      exact k_done ⟨g5, g6, c_g5_0, c_g6_1, ⟨⟨⟨⟨(fun _ => lr30), hF.1.1.1.2⟩, ⟨hF.1.1.2.1, (fun _ => rfl)⟩⟩, hF.1.2⟩, hF.2⟩, hp⟩
    refine allU_cons ?_ ?_
    · rintro L e w hLi hb hcl ⟨g5, g6, c_g5_0, c_g6_1, hF, hp⟩
      refine tk_ef ?_
      refine k_loadA (n := 5) (xs := ints .u64 ((a0.drop 5).take 5)) 5 rfl (by kernel_rfl) (by kernel_rfl) hF.1.1.2.1.2.1.2 (hp.get (j := 0) rfl) rfl rfl ((ints_length _ _).trans (show List.length ((a0.drop 5).take 5) = 5 from part_len la0 (by decide))) (fun m v hm => part_get hm) ?_
      exact k_done ⟨g5, g6, c_g5_0, c_g6_1, ⟨⟨hF.1.1, ⟨⟨(fun _ => rfl), hF.1.2.1.2⟩, hF.1.2.2⟩⟩, hF.2⟩, hp⟩
    refine allU_cons ?_ ?_
    · rintro L e w hLi hb hcl ⟨g5, g6, c_g5_0, c_g6_1, hF, hp⟩
      refine tk_ef ?_
      refine k_loadA (n := 5) (xs := ints .u64 ((a0.drop 5).take 5)) 5 rfl (by kernel_rfl) (by kernel_rfl) hF.1.1.2.1.2.2 (hp.get (j := 0) rfl) rfl rfl ((ints_length _ _).trans (show List.length ((a0.drop 5).take 5) = 5 from part_len la0 (by decide))) (fun m v hm => part_get hm) ?_
      exact k_done ⟨g5, g6, c_g5_0, c_g6_1, ⟨⟨hF.1.1, ⟨⟨hF.1.2.1.1, (fun _ => rfl)⟩, hF.1.2.2⟩⟩, hF.2⟩, hp⟩
    refine allU_cons ?_ ?_
    · rintro L e w hLi hb hcl ⟨g5, g6, c_g5_0, c_g6_1, hF, hp⟩
      have hL6 := hb 6 (by kernel_rfl)
      have hL8 := hb 8 (by kernel_rfl)
      refine k_call [.agg (ints .u64 ((a0.drop 5).take 5)).toArray, .agg (ints .u64 ((a0.drop 5).take 5)).toArray] rfl (by kernel_rfl) (args2 (hF.1.2.1.1 hL6) (hF.1.2.1.2 hL8)) (field_Element_Times_ok ((a0.drop 5).take 5) ((a0.drop 5).take 5) (show List.length ((a0.drop 5).take 5) = 5 from part_len la0 (by decide)) (show List.length ((a0.drop 5).take 5) = 5 from part_len la0 (by decide)) _ (hp.toR (fun _ h => by cases h)) qr4) ?_
      rintro _ w' ⟨_, rfl, rfl, lr40, hpc⟩
      refine ⟨_, rfl, .inr (.of_below hpc.chg.to_below), ?_⟩; have hp := hp.below hpc.chg.to_below; clear hpc
      exact k_done ⟨g5, g6, c_g5_0, c_g6_1, ⟨⟨⟨⟨hF.1.1.1.1, (fun _ => lr40)⟩, hF.1.1.2⟩, ⟨hF.1.2.1, ⟨(fun _ => rfl), hF.1.2.2.2⟩⟩⟩, hF.2⟩, hp⟩
    refine allU_cons ?_ ?_
    · rintro L e w hLi hb hcl ⟨g5, g6, c_g5_0, c_g6_1, hF, hp⟩
      have qc_g5_0 := hF.2.1.1.2 hLi
      rw [qc_g5_0] at hp
      refine k_allocAt 2 (ints .u64 (List.replicate 5 (0 : Int))) rfl (by kernel_rfl) hp ?_
      intro g5 w hbg5 hp
      exact k_done ⟨g5, g6, (List.replicate 5 (0 : Int)), c_g6_1, ⟨⟨hF.1.1, ⟨hF.1.2.1, ⟨hF.1.2.2.1, (fun _ => rfl)⟩⟩⟩, ⟨⟨⟨hF.2.1.1.1, (fun h => nomatch (show true = false from h))⟩, ⟨(fun _ _ => rfl), (fun h => absurd (hLi.symm.trans (hcl 12 10 (by kernel_rfl) h)) (by decide))⟩⟩, hF.2.2⟩⟩, hp⟩
    refine allU_cons ?_ ?_
    · rintro L e w hLi hb hcl ⟨g5, g6, c_g5_0, c_g6_1, hF, hp⟩
      have qc_g6_1 := hF.2.2.1.1 hLi
      rw [qc_g6_1] at hp
      refine k_allocAt 3 (ints .u64 (List.replicate 5 (0 : Int))) rfl (by kernel_rfl) hp ?_
      intro g6 w hbg6 hp
      exact k_done ⟨g5, g6, c_g5_0, (List.replicate 5 (0 : Int)), ⟨hF.1, ⟨⟨⟨(fun _ => rfl), hF.2.1.1.2⟩, hF.2.1.2⟩, ⟨⟨(fun h => nomatch (show true = false from h)), (fun _ _ => rfl)⟩, (fun h => absurd (hLi.symm.trans (hcl 13 11 (by kernel_rfl) h)) (by decide))⟩⟩⟩, hp⟩
    refine allU_cons ?_ ?_
    · rintro L e w hLi hb hcl ⟨g5, g6, c_g5_0, c_g6_1, hF, hp⟩
      have hL4 := hb 4 (by kernel_rfl)
      have hL10 := hb 10 (by kernel_rfl)
      have lr30 := hF.1.1.1.1 hL4
      have qc_g5_0 := hF.2.1.2.1 hLi hL10
      rw [qc_g5_0] at hp
      refine k_storeA (v := .agg (ints .u64 r3).toArray) 2 0 (r := ⟨g5, 0, ints .u64 (List.replicate 5 (0 : Int))⟩) (ints .u64 r3) (ints .u64 r3) rfl (n := 5) (by kernel_rfl) (hF.1.2.2.2 hL10) (hF.1.1.2.2 hL4) rfl ((ints_length _ _).trans lr30) (ints_one _ _) hp rfl rfl rfl (Nat.le_of_eq ((Nat.zero_add _).trans ((ints_length _ _).trans List.length_replicate).symm)) (setMany_all _ _ (((ints_length _ _).trans lr30).trans ((ints_length _ _).trans List.length_replicate).symm)) (by decide) ?_; intro w hp
      exact k_done ⟨g5, g6, r3, c_g6_1, ⟨hF.1, ⟨⟨⟨hF.2.1.1.1, (fun h => absurd (hL10.symm.trans h) (by decide))⟩, ⟨(fun h _ => nomatch (show true = false from h)), (fun _ => rfl)⟩⟩, hF.2.2⟩⟩, hp⟩
    refine allU_cons ?_ allU_nil
    · rintro L e w hLi hb hcl ⟨g5, g6, c_g5_0, c_g6_1, hF, hp⟩
      have hL9 := hb 9 (by kernel_rfl)
      have hL11 := hb 11 (by kernel_rfl)
      have lr40 := hF.1.1.1.2 hL9
      have qc_g6_1 := hF.2.2.1.2 hLi hL11
      rw [qc_g6_1] at hp
      refine k_storeA (v := .agg (ints .u64 r4).toArray) 3 0 (r := ⟨g6, 0, ints .u64 (List.replicate 5 (0 : Int))⟩) (ints .u64 r4) (ints .u64 r4) rfl (n := 5) (by kernel_rfl) (hF.2.1.1.1 hL11) (hF.1.2.2.1 hL9) rfl ((ints_length _ _).trans lr40) (ints_one _ _) hp rfl rfl rfl (Nat.le_of_eq ((Nat.zero_add _).trans ((ints_length _ _).trans List.length_replicate).symm)) (setMany_all _ _ (((ints_length _ _).trans lr40).trans ((ints_length _ _).trans List.length_replicate).symm)) (by decide) ?_; intro w hp
      exact k_done ⟨g5, g6, c_g5_0, r4, ⟨hF.1, ⟨hF.2.1, ⟨⟨(fun h => absurd (hL11.symm.trans h) (by decide)), (fun h _ => nomatch (show true = false from h))⟩, (fun _ => rfl)⟩⟩⟩, hp⟩
  rintro e192 w ⟨g5, g6, hF, hp⟩
  have lr30 := hF.1.1.1
  have lr40 := hF.1.1.2
  have s1_e192 := hF.1.2
  have s2_e192 := hF.2.1.1
  have s3_e192 := hF.2.1.2
  have s4_e192 := hF.2.2
  clear hF
  refine wseqP (p0 := [1, 1, 0]) (p1 := [1, 1, 1]) rfl rfl rfl ?_
  refine wregionT point_Point_Double.o3 (.tp 0 (.tk 1 (.tp 2 (.tk 3 (.ef 4 (.ef 5 (.ef 6 (.done)))))))) [6] rfl rfl (by kernel_rfl) (by kernel_rfl) ?_
  refine k_fieldAddr (n := 10) rfl (by kernel_rfl) s1_e192 ?_
  refine k_loadA (n := 5) (xs := ints .u64 ((a0.drop 10).take 5)) 10 rfl (by kernel_rfl) (by kernel_rfl) rfl (hp.get (j := 0) rfl) rfl rfl ((ints_length _ _).trans (show List.length ((a0.drop 10).take 5) = 5 from part_len la0 (by decide))) (fun m v hm => part_get hm) ?_
  refine k_fieldAddr (n := 10) rfl (by kernel_rfl) s1_e192 ?_
  refine k_loadA (n := 5) (xs := ints .u64 ((a0.drop 10).take 5)) 10 rfl (by kernel_rfl) (by kernel_rfl) rfl (hp.get (j := 0) rfl) rfl rfl ((ints_length _ _).trans (show List.length ((a0.drop 10).take 5) = 5 from part_len la0 (by decide))) (fun m v hm => part_get hm) ?_
  obtain ⟨r7, qr7, h⟩ := bd_e h
  refine k_call [.agg (ints .u64 ((a0.drop 10).take 5)).toArray, .agg (ints .u64 ((a0.drop 10).take 5)).toArray] rfl (by kernel_rfl) (args2 rfl rfl) (field_Element_Times_ok ((a0.drop 10).take 5) ((a0.drop 10).take 5) (show List.length ((a0.drop 10).take 5) = 5 from part_len la0 (by decide)) (show List.length ((a0.drop 10).take 5) = 5 from part_len la0 (by decide)) _ (hp.toR (fun _ h => by cases h)) qr7) ?_
  rintro _ w' ⟨_, rfl, rfl, lr70, hpc⟩
  refine ⟨_, rfl, .inr (.of_below hpc.chg.to_below), ?_⟩; have hp := hp.below hpc.chg.to_below; clear hpc
  refine k_alloc (ints .u64 (List.replicate 5 (0 : Int))) rfl (by kernel_rfl) hp ?_
  intro g8 w hbg8 hp
  refine k_storeA (v := .agg (ints .u64 r7).toArray) 4 0 (r := ⟨g8, 0, ints .u64 (List.replicate 5 (0 : Int))⟩) (ints .u64 r7) (ints .u64 r7) rfl (n := 5) (by kernel_rfl) rfl rfl rfl ((ints_length _ _).trans lr70) (ints_one _ _) hp rfl rfl rfl (Nat.le_of_eq ((Nat.zero_add _).trans ((ints_length _ _).trans List.length_replicate).symm)) (setMany_all _ _ (((ints_length _ _).trans lr70).trans ((ints_length _ _).trans List.length_replicate).symm)) (by decide) ?_; intro w hp
  refine k_end ?_; intro e193 qe193
  have s1_e193 : e193 1 = .pointer (some ⟨g1, 0, none⟩) := (congrFun qe193 1).trans s1_e192
  have s2_e193 : e193 2 = .pointer (some ⟨g2, 0, none⟩) := (congrFun qe193 2).trans s2_e192
  have s3_e193 : e193 3 = .pointer (some ⟨g5, 0, none⟩) := (congrFun qe193 3).trans s3_e192
  have s4_e193 : e193 4 = .pointer (some ⟨g6, 0, none⟩) := (congrFun qe193 4).trans s4_e192
  have s5_e193 : e193 5 = .pointer (some ⟨g8, 0, none⟩) := congrFun qe193 5
  clear qe193
  refine wseqP (p0 := [1, 1, 1, 0]) (p1 := [1, 1, 1, 1]) rfl rfl rfl ?_
  refine wregionT point_Point_Double.o4 (.tk 0 (.tk 1 (.ef 2 (.ef 3 (.done))))) [3] rfl rfl (by kernel_rfl) (by kernel_rfl) ?_
  refine k_loadA (n := 5) (xs := ints .u64 r7) 0 rfl (by kernel_rfl) (by kernel_rfl) s5_e193 (hp.get (j := 4) rfl) rfl rfl ((ints_length _ _).trans lr70) (fun m v hm => by rw [Nat.zero_add]; exact hm) ?_
  refine k_loadA (n := 5) (xs := ints .u64 r7) 0 rfl (by kernel_rfl) (by kernel_rfl) s5_e193 (hp.get (j := 4) rfl) rfl rfl ((ints_length _ _).trans lr70) (fun m v hm => by rw [Nat.zero_add]; exact hm) ?_
  obtain ⟨r9, qr9, h⟩ := bd_e h
  refine k_call [.agg (ints .u64 r7).toArray, .agg (ints .u64 r7).toArray] rfl (by kernel_rfl) (args2 rfl rfl) (field_Element_Plus_ok k r7 r7 lr70 lr70 _ (hp.toR (fun _ h => by cases h)) qr9) ?_
  rintro _ w' ⟨_, rfl, rfl, lr90, hpc⟩
  refine ⟨_, rfl, .inr (.of_below hpc.chg.to_below), ?_⟩; have hp := hp.below hpc.chg.to_below; clear hpc
  refine k_storeA (v := .agg (ints .u64 r9).toArray) 4 0 (r := ⟨g8, 0, ints .u64 r7⟩) (ints .u64 r9) (ints .u64 r9) rfl (n := 5) (by kernel_rfl) s5_e193 rfl rfl ((ints_length _ _).trans lr90) (ints_one _ _) hp rfl rfl rfl (Nat.le_of_eq ((Nat.zero_add _).trans ((ints_length _ _).trans lr70).symm)) (setMany_all _ _ (((ints_length _ _).trans lr90).trans ((ints_length _ _).trans lr70).symm)) (by decide) ?_; intro w hp
  refine k_end ?_; intro e194 qe194
  have s1_e194 : e194 1 = .pointer (some ⟨g1, 0, none⟩) := (congrFun qe194 1).trans s1_e193
  have s2_e194 : e194 2 = .pointer (some ⟨g2, 0, none⟩) := (congrFun qe194 2).trans s2_e193
  have s3_e194 : e194 3 = .pointer (some ⟨g5, 0, none⟩) := (congrFun qe194 3).trans s3_e193
  have s4_e194 : e194 4 = .pointer (some ⟨g6, 0, none⟩) := (congrFun qe194 4).trans s4_e193
  have s5_e194 : e194 5 = .pointer (some ⟨g8, 0, none⟩) := (congrFun qe194 5).trans s5_e193
  clear qe194
  refine wseqP (p0 := [1, 1, 1, 1, 0]) (p1 := [1, 1, 1, 1, 1]) rfl rfl rfl ?_
  refine wregionT point_Point_Double.o5 (.tp 0 (.tk 1 (.tp 2 (.tk 3 (.ef 4 (.ef 5 (.ef 6 (.done)))))))) [6] rfl rfl (by kernel_rfl) (by kernel_rfl) ?_
  refine k_fieldAddr (n := 0) rfl (by kernel_rfl) s1_e194 ?_
  refine k_loadA (n := 5) (xs := ints .u64 ((a0.drop 0).take 5)) 0 rfl (by kernel_rfl) (by kernel_rfl) rfl (hp.get (j := 0) rfl) rfl rfl ((ints_length _ _).trans (show List.length ((a0.drop 0).take 5) = 5 from part_len la0 (by decide))) (fun m v hm => part_get hm) ?_
  refine k_fieldAddr (n := 5) rfl (by kernel_rfl) s1_e194 ?_
  refine k_loadA (n := 5) (xs := ints .u64 ((a0.drop 5).take 5)) 5 rfl (by kernel_rfl) (by kernel_rfl) rfl (hp.get (j := 0) rfl) rfl rfl ((ints_length _ _).trans (show List.length ((a0.drop 5).take 5) = 5 from part_len la0 (by decide))) (fun m v hm => part_get hm) ?_
  obtain ⟨r10, qr10, h⟩ := bd_e h
  refine k_call [.agg (ints .u64 ((a0.drop 0).take 5)).toArray, .agg (ints .u64 ((a0.drop 5).take 5)).toArray] rfl (by kernel_rfl) (args2 rfl rfl) (field_Element_Plus_ok k ((a0.drop 0).take 5) ((a0.drop 5).take 5) (show List.length ((a0.drop 0).take 5) = 5 from part_len la0 (by decide)) (show List.length ((a0.drop 5).take 5) = 5 from part_len la0 (by decide)) _ (hp.toR (fun _ h => by cases h)) qr10) ?_
  rintro _ w' ⟨_, rfl, rfl, lr100, hpc⟩
  refine ⟨_, rfl, .inr (.of_below hpc.chg.to_below), ?_⟩; have hp := hp.below hpc.chg.to_below; clear hpc
  refine k_alloc (ints .u64 (List.replicate 5 (0 : Int))) rfl (by kernel_rfl) hp ?_
  intro g11 w hbg11 hp
  refine k_storeA (v := .agg (ints .u64 r10).toArray) 5 0 (r := ⟨g11, 0, ints .u64 (List.replicate 5 (0 : Int))⟩) (ints .u64 r10) (ints .u64 r10) rfl (n := 5) (by kernel_rfl) rfl rfl rfl ((ints_length _ _).trans lr100) (ints_one _ _) hp rfl rfl rfl (Nat.le_of_eq ((Nat.zero_add _).trans ((ints_length _ _).trans List.length_replicate).symm)) (setMany_all _ _ (((ints_length _ _).trans lr100).trans ((ints_length _ _).trans List.length_replicate).symm)) (by decide) ?_; intro w hp
  refine k_end ?_; intro e195 qe195
  have s2_e195 : e195 2 = .pointer (some ⟨g2, 0, none⟩) := (congrFun qe195 2).trans s2_e194
  have s3_e195 : e195 3 = .pointer (some ⟨g5, 0, none⟩) := (congrFun qe195 3).trans s3_e194
  have s4_e195 : e195 4 = .pointer (some ⟨g6, 0, none⟩) := (congrFun qe195 4).trans s4_e194
  have s5_e195 : e195 5 = .pointer (some ⟨g8, 0, none⟩) := (congrFun qe195 5).trans s5_e194
  have s6_e195 : e195 6 = .pointer (some ⟨g11, 0, none⟩) := congrFun qe195 6
  clear qe195
  refine wseqP (p0 := [1, 1, 1, 1, 1, 0]) (p1 := [1, 1, 1, 1, 1, 1]) rfl rfl rfl ?_
  refine wregionT point_Point_Double.o6 (.tk 0 (.tk 1 (.ef 2 (.ef 3 (.ef 4 (.done)))))) [4] rfl rfl (by kernel_rfl) (by kernel_rfl) ?_
  refine k_loadA (n := 5) (xs := ints .u64 r3) 0 rfl (by kernel_rfl) (by kernel_rfl) s3_e195 (hp.get (j := 2) rfl) rfl rfl ((ints_length _ _).trans lr30) (fun m v hm => by rw [Nat.zero_add]; exact hm) ?_
  refine k_loadA (n := 5) (xs := ints .u64 r4) 0 rfl (by kernel_rfl) (by kernel_rfl) s4_e195 (hp.get (j := 3) rfl) rfl rfl ((ints_length _ _).trans lr40) (fun m v hm => by rw [Nat.zero_add]; exact hm) ?_
  obtain ⟨r12, qr12, h⟩ := bd_e h
  refine k_call [.agg (ints .u64 r3).toArray, .agg (ints .u64 r4).toArray] rfl (by kernel_rfl) (args2 rfl rfl) (field_Element_Plus_ok k r3 r4 lr30 lr40 _ (hp.toR (fun _ h => by cases h)) qr12) ?_
  rintro _ w' ⟨_, rfl, rfl, lr120, hpc⟩
  refine ⟨_, rfl, .inr (.of_below hpc.chg.to_below), ?_⟩; have hp := hp.below hpc.chg.to_below; clear hpc
  refine k_alloc (ints .u64 (List.replicate 5 (0 : Int))) rfl (by kernel_rfl) hp ?_
  intro g13 w hbg13 hp
  refine k_storeA (v := .agg (ints .u64 r12).toArray) 6 0 (r := ⟨g13, 0, ints .u64 (List.replicate 5 (0 : Int))⟩) (ints .u64 r12) (ints .u64 r12) rfl (n := 5) (by kernel_rfl) rfl rfl rfl ((ints_length _ _).trans lr120) (ints_one _ _) hp rfl rfl rfl (Nat.le_of_eq ((Nat.zero_add _).trans ((ints_length _ _).trans List.length_replicate).symm)) (setMany_all _ _ (((ints_length _ _).trans lr120).trans ((ints_length _ _).trans List.length_replicate).symm)) (by decide) ?_; intro w hp
  refine k_end ?_; intro e196 qe196
  have s2_e196 : e196 2 = .pointer (some ⟨g2, 0, none⟩) := (congrFun qe196 2).trans s2_e195
  have s3_e196 : e196 3 = .pointer (some ⟨g5, 0, none⟩) := (congrFun qe196 3).trans s3_e195
  have s4_e196 : e196 4 = .pointer (some ⟨g6, 0, none⟩) := (congrFun qe196 4).trans s4_e195
  have s5_e196 : e196 5 = .pointer (some ⟨g8, 0, none⟩) := (congrFun qe196 5).trans s5_e195
  have s6_e196 : e196 6 = .pointer (some ⟨g11, 0, none⟩) := (congrFun qe196 6).trans s6_e195
  have s7_e196 : e196 7 = .pointer (some ⟨g13, 0, none⟩) := congrFun qe196 7
  clear qe196
  refine wseqP (p0 := [1, 1, 1, 1, 1, 1, 0]) (p1 := [1, 1, 1, 1, 1, 1, 1]) rfl rfl rfl ?_
  obtain ⟨r14, qr14, h⟩ := bd_e h
  obtain ⟨r15, qr15, h⟩ := bd_e h
  refine wcut (fun e197 w2 => ∃ g16 : Nat, (((r15.length = 5 ∧ e197 2 = .pointer (some ⟨g2, 0, none⟩)) ∧ (e197 3 = .pointer (some ⟨g5, 0, none⟩) ∧ e197 4 = .pointer (some ⟨g6, 0, none⟩))) ∧ ((e197 5 = .pointer (some ⟨g8, 0, none⟩) ∧ e197 7 = .pointer (some ⟨g13, 0, none⟩)) ∧ e197 8 = .pointer (some ⟨g16, 0, none⟩))) ∧ Hp w0 [] w2 [⟨g1, 0, ints .u64 a0⟩, ⟨g2, 0, ints .u64 (List.replicate 20 (0 : Int))⟩, ⟨g5, 0, ints .u64 r3⟩, ⟨g6, 0, ints .u64 r4⟩, ⟨g8, 0, ints .u64 r9⟩, ⟨g11, 0, ints .u64 r10⟩, ⟨g13, 0, ints .u64 r12⟩, ⟨g16, 0, ints .u64 r15⟩] []) ?_ ?_
  rotate_left
  · refine wregionM point_Point_Double.o7 (.tk 0 (.tk 1 (.tk 2 (.rest 7 4)))) [6] [(0, 0, 0), (0, 0, 0), (0, 0, 0), (6, 127, 127), (9, 127, 127), (0, 127, 127), (63, 127, 127)] rfl rfl (by kernel_rfl) (by kernel_rfl) (Nat.le_of_ble_eq_true (by kernel_rfl)) (by kernel_rfl) (by kernel_rfl) (by kernel_rfl) ?_
    have hp := hp.drew
    refine k_loadA (n := 5) (xs := ints .u64 r12) 0 rfl (by kernel_rfl) (by kernel_rfl) s7_e196 (hp.get (j := 6) rfl) rfl rfl ((ints_length _ _).trans lr120) (fun m v hm => by rw [Nat.zero_add]; exact hm) ?_
    refine k_loadA (n := 5) (xs := ints .u64 r10) 0 rfl (by kernel_rfl) (by kernel_rfl) s6_e196 (hp.get (j := 5) rfl) rfl rfl ((ints_length _ _).trans lr100) (fun m v hm => by rw [Nat.zero_add]; exact hm) ?_
    refine k_loadA (n := 5) (xs := ints .u64 r10) 0 rfl (by kernel_rfl) (by kernel_rfl) s6_e196 (hp.get (j := 5) rfl) rfl rfl ((ints_length _ _).trans lr100) (fun m v hm => by rw [Nat.zero_add]; exact hm) ?_
    refine k_rest [3, 4, 5, 6] (fun L e w => ∃ g16 : Nat, ∃ c_g16_0 : List Int, (((((L 3 = true → r14.length = 5) ∧ (L 4 = true → r15.length = 5)) ∧ (((e 2 = .pointer (some ⟨g2, 0, none⟩) ∧ e 3 = .pointer (some ⟨g5, 0, none⟩)) ∧ (e 4 = .pointer (some ⟨g6, 0, none⟩) ∧ e 5 = .pointer (some ⟨g8, 0, none⟩))) ∧ ((e 7 = .pointer (some ⟨g13, 0, none⟩) ∧ e 37 = .agg (ints .u64 r12).toArray) ∧ (e 38 = .agg (ints .u64 r10).toArray ∧ e 39 = .agg (ints .u64 r10).toArray)))) ∧ ((L 3 = true → e 40 = .agg (ints .u64 r14).toArray) ∧ (L 4 = true → e 41 = .agg (ints .u64 r15).toArray))) ∧ (((L 5 = true → e 8 = .pointer (some ⟨g16, 0, none⟩)) ∧ (L 5 = false → c_g16_0 = ([] : List Int))) ∧ ((L 6 = false → L 5 = true → c_g16_0 = (List.replicate 5 (0 : Int))) ∧ (L 6 = true → c_g16_0 = r15)))) ∧ Hp w0 [] w [⟨g1, 0, ints .u64 a0⟩, ⟨g2, 0, ints .u64 (List.replicate 20 (0 : Int))⟩, ⟨g5, 0, ints .u64 r3⟩, ⟨g6, 0, ints .u64 r4⟩, ⟨g8, 0, ints .u64 r9⟩, ⟨g11, 0, ints .u64 r10⟩, ⟨g13, 0, ints .u64 r12⟩, ⟨g16, 0, ints .u64 c_g16_0⟩] []) (by kernel_rfl) (by kernel_rfl) ?_ ?_ ?_
    have hp := hp.free1 0 0
    · exact ⟨0, ([] : List Int), ⟨⟨⟨⟨(fun h => absurd h (by decide)), (fun h => absurd h (by decide))⟩, ⟨⟨⟨s2_e196, s3_e196⟩, ⟨s4_e196, s5_e196⟩⟩, ⟨⟨s7_e196, rfl⟩, ⟨rfl, rfl⟩⟩⟩⟩, ⟨(fun h => absurd h (by decide)), (fun h => absurd h (by decide))⟩⟩, ⟨⟨(fun h => absurd h (by decide)), (fun _ => rfl)⟩, ⟨(fun _ h => absurd h (by decide)), (fun h => absurd h (by decide))⟩⟩⟩, hp⟩
    · rintro L e w hall ⟨g16, c_g16_0, hF, hp⟩
      have qc_g16_0 := hF.2.2.2 (hall 6 rfl)
      rw [qc_g16_0] at hp
      exact onlyN_i ⟨g16, ⟨⟨⟨(hF.1.1.1.2 (hall 4 rfl)), hF.1.1.2.1.1.1⟩, ⟨hF.1.1.2.1.1.2, hF.1.1.2.1.2.1⟩⟩, ⟨⟨hF.1.1.2.1.2.2, hF.1.1.2.2.1.1⟩, (hF.2.1.1 (hall 5 rfl))⟩⟩, hp⟩
    refine allU_cons ?_ ?_
    · rintro L e w hLi hb hcl ⟨g16, c_g16_0, hF, hp⟩
      refine k_call [.agg (ints .u64 r10).toArray, .agg (ints .u64 r10).toArray] rfl (by kernel_rfl) (args2 hF.1.1.2.2.2.1 hF.1.1.2.2.2.2) (field_Element_Times_ok r10 r10 lr100 lr100 _ (hp.toR (fun _ h => by cases h)) qr14) ?_
      rintro _ w' ⟨_, rfl, rfl, lr140, hpc⟩
      refine ⟨_, rfl, .inr (.of_below hpc.chg.to_below), ?_⟩; have hp := hp.below hpc.chg.to_below; clear hpc
      exact k_done ⟨g16, c_g16_0, ⟨⟨⟨⟨(fun _ => lr140), hF.1.1.1.2⟩, hF.1.1.2⟩, ⟨(fun _ => rfl), hF.1.2.2⟩⟩, hF.2⟩, hp⟩
    refine allU_cons ?_ ?_
    · rintro L e w hLi hb hcl ⟨g16, c_g16_0, hF, hp⟩
      have hL3 := hb 3 (by kernel_rfl)
      have lr140 := hF.1.1.1.1 hL3
      refine k_call [.agg (ints .u64 r12).toArray, .agg (ints .u64 r14).toArray] rfl (by kernel_rfl) (args2 hF.1.1.2.2.1.2 (hF.1.2.1 hL3)) (field_Element_Minus_ok r12 r14 lr120 lr140 _ (hp.toR (fun _ h => by cases h)) qr15) ?_
      rintro _ w' ⟨_, rfl, rfl, lr150, hpc⟩
      refine ⟨_, rfl, .inr (.of_below hpc.chg.to_below), ?_⟩; have hp := hp.below hpc.chg.to_below; clear hpc
      exact k_done ⟨g16, c_g16_0, ⟨⟨⟨⟨hF.1.1.1.1, (fun _ => lr150)⟩, hF.1.1.2⟩, ⟨hF.1.2.1, (fun _ => rfl)⟩⟩, hF.2⟩, hp⟩
    refine allU_cons ?_ ?_
    · rintro L e w hLi hb hcl ⟨g16, c_g16_0, hF, hp⟩
      have qc_g16_0 := hF.2.1.2 hLi
      rw [qc_g16_0] at hp
      refine k_allocAt 7 (ints .u64 (List.replicate 5 (0 : Int))) rfl (by kernel_rfl) hp ?_
      intro g16 w hbg16 hp
      exact k_done ⟨g16, (List.replicate 5 (0 : Int)), ⟨hF.1, ⟨⟨(fun _ => rfl), (fun h => nomatch (show true = false from h))⟩, ⟨(fun _ _ => rfl), (fun h => absurd (hLi.symm.trans (hcl 6 5 (by kernel_rfl) h)) (by decide))⟩⟩⟩, hp⟩
    refine allU_cons ?_ allU_nil
    · rintro L e w hLi hb hcl ⟨g16, c_g16_0, hF, hp⟩
      have hL4 := hb 4 (by kernel_rfl)
      have hL5 := hb 5 (by kernel_rfl)
      have lr150 := hF.1.1.1.2 hL4
      have qc_g16_0 := hF.2.2.1 hLi hL5
      rw [qc_g16_0] at hp
      refine k_storeA (v := .agg (ints .u64 r15).toArray) 7 0 (r := ⟨g16, 0, ints .u64 (List.replicate 5 (0 : Int))⟩) (ints .u64 r15) (ints .u64 r15) rfl (n := 5) (by kernel_rfl) (hF.2.1.1 hL5) (hF.1.2.2 hL4) rfl ((ints_length _ _).trans lr150) (ints_one _ _) hp rfl rfl rfl (Nat.le_of_eq ((Nat.zero_add _).trans ((ints_length _ _).trans List.length_replicate).symm)) (setMany_all _ _ (((ints_length _ _).trans lr150).trans ((ints_length _ _).trans List.length_replicate).symm)) (by decide) ?_; intro w hp
      exact k_done ⟨g16, r15, ⟨hF.1, ⟨⟨hF.2.1.1, (fun h => absurd (hL5.symm.trans h) (by decide))⟩, ⟨(fun h _ => nomatch (show true = false from h)), (fun _ => rfl)⟩⟩⟩, hp⟩
  rintro e197 w ⟨g16, hF, hp⟩
  have lr150 := hF.1.1.1
  have s2_e197 := hF.1.1.2
  have s3_e197 := hF.1.2.1
  have s4_e197 := hF.1.2.2
  have s5_e197 := hF.2.1.1
  have s7_e197 := hF.2.1.2
  have s8_e197 := hF.2.2
  clear hF
  refine wseqP (p0 := [1, 1, 1, 1, 1, 1, 1, 0]) (p1 := [1, 1, 1, 1, 1, 1, 1, 1]) rfl rfl rfl ?_
  refine wregionT point_Point_Double.o8 (.tk 0 (.tk 1 (.ef 2 (.ef 3 (.ef 4 (.done)))))) [4] rfl rfl (by kernel_rfl) (by kernel_rfl) ?_
  refine k_loadA (n := 5) (xs := ints .u64 r3) 0 rfl (by kernel_rfl) (by kernel_rfl) s3_e197 (hp.get (j := 2) rfl) rfl rfl ((ints_length _ _).trans lr30) (fun m v hm => by rw [Nat.zero_add]; exact hm) ?_
  refine k_loadA (n := 5) (xs := ints .u64 r4) 0 rfl (by kernel_rfl) (by kernel_rfl) s4_e197 (hp.get (j := 3) rfl) rfl rfl ((ints_length _ _).trans lr40) (fun m v hm => by rw [Nat.zero_add]; exact hm) ?_
  obtain ⟨r17, qr17, h⟩ := bd_e h
  refine k_call [.agg (ints .u64 r3).toArray, .agg (ints .u64 r4).toArray] rfl (by kernel_rfl) (args2 rfl rfl) (field_Element_Minus_ok r3 r4 lr30 lr40 _ (hp.toR (fun _ h => by cases h)) qr17) ?_
  rintro _ w' ⟨_, rfl, rfl, lr170, hpc⟩
  refine ⟨_, rfl, .inr (.of_below hpc.chg.to_below), ?_⟩; have hp := hp.below hpc.chg.to_below; clear hpc
  refine k_alloc (ints .u64 (List.replicate 5 (0 : Int))) rfl (by kernel_rfl) hp ?_
  intro g18 w hbg18 hp
  refine k_storeA (v := .agg (ints .u64 r17).toArray) 8 0 (r := ⟨g18, 0, ints .u64 (List.replicate 5 (0 : Int))⟩) (ints .u64 r17) (ints .u64 r17) rfl (n := 5) (by kernel_rfl) rfl rfl rfl ((ints_length _ _).trans lr170) (ints_one _ _) hp rfl rfl rfl (Nat.le_of_eq ((Nat.zero_add _).trans ((ints_length _ _).trans List.length_replicate).symm)) (setMany_all _ _ (((ints_length _ _).trans lr170).trans ((ints_length _ _).trans List.length_replicate).symm)) (by decide) ?_; intro w hp
  refine k_end ?_; intro e198 qe198
  have s2_e198 : e198 2 = .pointer (some ⟨g2, 0, none⟩) := (congrFun qe198 2).trans s2_e197
  have s5_e198 : e198 5 = .pointer (some ⟨g8, 0, none⟩) := (congrFun qe198 5).trans s5_e197
  have s7_e198 : e198 7 = .pointer (some ⟨g13, 0, none⟩) := (congrFun qe198 7).trans s7_e197
  have s8_e198 : e198 8 = .pointer (some ⟨g16, 0, none⟩) := (congrFun qe198 8).trans s8_e197
  have s9_e198 : e198 9 = .pointer (some ⟨g18, 0, none⟩) := congrFun qe198 9
  clear qe198
  refine wseqP (p0 := [1, 1, 1, 1, 1, 1, 1, 1, 0]) (p1 := [1, 1, 1, 1, 1, 1, 1, 1, 1]) rfl rfl rfl ?_
  refine wregionT point_Point_Double.o9 (.tk 0 (.tk 1 (.ef 2 (.ef 3 (.ef 4 (.done)))))) [4] rfl rfl (by kernel_rfl) (by kernel_rfl) ?_
  refine k_loadA (n := 5) (xs := ints .u64 r9) 0 rfl (by kernel_rfl) (by kernel_rfl) s5_e198 (hp.get (j := 4) rfl) rfl rfl ((ints_length _ _).trans lr90) (fun m v hm => by rw [Nat.zero_add]; exact hm) ?_
  refine k_loadA (n := 5) (xs := ints .u64 r17) 0 rfl (by kernel_rfl) (by kernel_rfl) s9_e198 (hp.get (j := 8) rfl) rfl rfl ((ints_length _ _).trans lr170) (fun m v hm => by rw [Nat.zero_add]; exact hm) ?_
  obtain ⟨r19, qr19, h⟩ := bd_e h
  refine k_call [.agg (ints .u64 r9).toArray, .agg (ints .u64 r17).toArray] rfl (by kernel_rfl) (args2 rfl rfl) (field_Element_Plus_ok k r9 r17 lr90 lr170 _ (hp.toR (fun _ h => by cases h)) qr19) ?_
  rintro _ w' ⟨_, rfl, rfl, lr190, hpc⟩
  refine ⟨_, rfl, .inr (.of_below hpc.chg.to_below), ?_⟩; have hp := hp.below hpc.chg.to_below; clear hpc
  refine k_alloc (ints .u64 (List.replicate 5 (0 : Int))) rfl (by kernel_rfl) hp ?_
  intro g20 w hbg20 hp
  refine k_storeA (v := .agg (ints .u64 r19).toArray) 9 0 (r := ⟨g20, 0, ints .u64 (List.replicate 5 (0 : Int))⟩) (ints .u64 r19) (ints .u64 r19) rfl (n := 5) (by kernel_rfl) rfl rfl rfl ((ints_length _ _).trans lr190) (ints_one _ _) hp rfl rfl rfl (Nat.le_of_eq ((Nat.zero_add _).trans ((ints_length _ _).trans List.length_replicate).symm)) (setMany_all _ _ (((ints_length _ _).trans lr190).trans ((ints_length _ _).trans List.length_replicate).symm)) (by decide) ?_; intro w hp
  refine k_end ?_; intro e199 qe199
  have s2_e199 : e199 2 = .pointer (some ⟨g2, 0, none⟩) := (congrFun qe199 2).trans s2_e198
  have s7_e199 : e199 7 = .pointer (some ⟨g13, 0, none⟩) := (congrFun qe199 7).trans s7_e198
  have s8_e199 : e199 8 = .pointer (some ⟨g16, 0, none⟩) := (congrFun qe199 8).trans s8_e198
  have s9_e199 : e199 9 = .pointer (some ⟨g18, 0, none⟩) := (congrFun qe199 9).trans s9_e198
  have s10_e199 : e199 10 = .pointer (some ⟨g20, 0, none⟩) := congrFun qe199 10
  clear qe199
  refine wseqP (p0 := [1, 1, 1, 1, 1, 1, 1, 1, 1, 0]) (p1 := [1, 1, 1, 1, 1, 1, 1, 1, 1, 1]) rfl rfl rfl ?_
  refine wregionM point_Point_Double.o10 (.tk 0 (.tk 1 (.tk 3 (.tk 4 (.tk 6 (.tk 7 (.tk 9 (.tk 10 (.ef 2 (.ef 5 (.ef 8 (.ef 11 (.tp 12 (.ef 13 (.done))))))))))))))) [13] [(0, 0, 0), (0, 0, 0), (3, 16383, 16383), (0, 0, 0), (0, 0, 0), (28, 16383, 16383), (0, 0, 0), (0, 0, 0), (224, 16383, 16383), (0, 0, 0), (0, 0, 0), (1792, 16383, 16383), (2340, 2340, 16383), (8191, 16383, 16383)] rfl rfl (by kernel_rfl) (by kernel_rfl) (Nat.le_of_ble_eq_true (by kernel_rfl)) (by kernel_rfl) (by kernel_rfl) (by kernel_rfl) ?_
  have hp := hp.drew
  refine k_loadA (n := 5) (xs := ints .u64 r15) 0 rfl (by kernel_rfl) (by kernel_rfl) s8_e199 (hp.get (j := 7) rfl) rfl rfl ((ints_length _ _).trans lr150) (fun m v hm => by rw [Nat.zero_add]; exact hm) ?_
  refine k_loadA (n := 5) (xs := ints .u64 r19) 0 rfl (by kernel_rfl) (by kernel_rfl) s10_e199 (hp.get (j := 9) rfl) rfl rfl ((ints_length _ _).trans lr190) (fun m v hm => by rw [Nat.zero_add]; exact hm) ?_
  refine k_loadA (n := 5) (xs := ints .u64 r17) 0 rfl (by kernel_rfl) (by kernel_rfl) s9_e199 (hp.get (j := 8) rfl) rfl rfl ((ints_length _ _).trans lr170) (fun m v hm => by rw [Nat.zero_add]; exact hm) ?_
  refine k_loadA (n := 5) (xs := ints .u64 r12) 0 rfl (by kernel_rfl) (by kernel_rfl) s7_e199 (hp.get (j := 6) rfl) rfl rfl ((ints_length _ _).trans lr120) (fun m v hm => by rw [Nat.zero_add]; exact hm) ?_
  refine k_loadA (n := 5) (xs := ints .u64 r19) 0 rfl (by kernel_rfl) (by kernel_rfl) s10_e199 (hp.get (j := 9) rfl) rfl rfl ((ints_length _ _).trans lr190) (fun m v hm => by rw [Nat.zero_add]; exact hm) ?_
  refine k_loadA (n := 5) (xs := ints .u64 r17) 0 rfl (by kernel_rfl) (by kernel_rfl) s9_e199 (hp.get (j := 8) rfl) rfl rfl ((ints_length _ _).trans lr170) (fun m v hm => by rw [Nat.zero_add]; exact hm) ?_
  refine k_loadA (n := 5) (xs := ints .u64 r15) 0 rfl (by kernel_rfl) (by kernel_rfl) s8_e199 (hp.get (j := 7) rfl) rfl rfl ((ints_length _ _).trans lr150) (fun m v hm => by rw [Nat.zero_add]; exact hm) ?_
  refine k_loadA (n := 5) (xs := ints .u64 r12) 0 rfl (by kernel_rfl) (by kernel_rfl) s7_e199 (hp.get (j := 6) rfl) rfl rfl ((ints_length _ _).trans lr120) (fun m v hm => by rw [Nat.zero_add]; exact hm) ?_
  obtain ⟨r21, qr21, h⟩ := bd_e h
  refine k_call [.agg (ints .u64 r15).toArray, .agg (ints .u64 r19).toArray] rfl (by kernel_rfl) (args2 rfl rfl) (field_Element_Times_ok r15 r19 lr150 lr190 _ (hp.toR (fun _ h => by cases h)) qr21) ?_
  rintro _ w' ⟨_, rfl, rfl, lr210, hpc⟩
  refine ⟨_, rfl, .inr (.of_below hpc.chg.to_below), ?_⟩; have hp := hp.below hpc.chg.to_below; clear hpc
  obtain ⟨r22, qr22, h⟩ := bd_e h
  refine k_call [.agg (ints .u64 r17).toArray, .agg (ints .u64 r12).toArray] rfl (by kernel_rfl) (args2 rfl rfl) (field_Element_Times_ok r17 r12 lr170 lr120 _ (hp.toR (fun _ h => by cases h)) qr22) ?_
  rintro _ w' ⟨_, rfl, rfl, lr220, hpc⟩
  refine ⟨_, rfl, .inr (.of_below hpc.chg.to_below), ?_⟩; have hp := hp.below hpc.chg.to_below; clear hpc
  obtain ⟨r23, qr23, h⟩ := bd_e h
  refine k_call [.agg (ints .u64 r19).toArray, .agg (ints .u64 r17).toArray] rfl (by kernel_rfl) (args2 rfl rfl) (field_Element_Times_ok r19 r17 lr190 lr170 _ (hp.toR (fun _ h => by cases h)) qr23) ?_
  rintro _ w' ⟨_, rfl, rfl, lr230, hpc⟩
  refine ⟨_, rfl, .inr (.of_below hpc.chg.to_below), ?_⟩; have hp := hp.below hpc.chg.to_below; clear hpc
  obtain ⟨r24, qr24, h⟩ := bd_e h
  refine k_call [.agg (ints .u64 r15).toArray, .agg (ints .u64 r12).toArray] rfl (by kernel_rfl) (args2 rfl rfl) (field_Element_Times_ok r15 r12 lr150 lr120 _ (hp.toR (fun _ h => by cases h)) qr24) ?_
  rintro _ w' ⟨_, rfl, rfl, lr240, hpc⟩
  refine ⟨_, rfl, .inr (.of_below hpc.chg.to_below), ?_⟩; have hp := hp.below hpc.chg.to_below; clear hpc
  refine k_buildP (v := .agg (ints .u64 (r21 ++ r22 ++ r23 ++ r24)).toArray) [(0, .agg (ints .u64 r21).toArray), (1, .agg (ints .u64 r22).toArray), (2, .agg (ints .u64 r23).toArray), (3, .agg (ints .u64 r24).toArray)] rfl (pcons rfl (pcons rfl (pcons rfl (pcons rfl pnil)))) (fun _ => by rw [lst r21 lr210, lst r22 lr220, lst r23 lr230, lst r24 lr240]; kernel_rfl) ?_
  refine k_storeA (v := .agg (ints .u64 (r21 ++ r22 ++ r23 ++ r24)).toArray) 1 0 (r := ⟨g2, 0, ints .u64 (List.replicate 20 (0 : Int))⟩) (ints .u64 (r21 ++ r22 ++ r23 ++ r24)) (ints .u64 (r21 ++ r22 ++ r23 ++ r24)) rfl (n := 20) (by kernel_rfl) s2_e199 rfl rfl ((ints_length _ _).trans (show List.length ((r21 ++ r22 ++ r23 ++ r24) : List Int) = 20 by simp [lr210, lr220, lr230, lr240])) (ints_one _ _) hp rfl rfl rfl (Nat.le_of_eq ((Nat.zero_add _).trans ((ints_length _ _).trans List.length_replicate).symm)) (setMany_all _ _ (((ints_length _ _).trans (show List.length ((r21 ++ r22 ++ r23 ++ r24) : List Int) = 20 by simp [lr210, lr220, lr230, lr240])).trans ((ints_length _ _).trans List.length_replicate).symm)) (by decide) ?_; intro w hp
  refine k_end ?_; intro e200 qe200
  have s2_e200 : e200 2 = .pointer (some ⟨g2, 0, none⟩) := (congrFun qe200 2).trans s2_e199
  clear qe200
  refine wret rfl ?_
  have hr : r = (r21 ++ r22 ++ r23 ++ r24) := (Option.some.inj h).symm
  show RetP _ _ _ _ _
  rw [hr]
  exact ret_i [.agg (ints .u64 (r21 ++ r22 ++ r23 ++ r24)).toArray] (res_cell s2_e200 (loadVar_agg (by kernel_rfl) (by kernel_rfl) ((ints_length _ _).trans (show List.length ((r21 ++ r22 ++ r23 ++ r24) : List Int) = 20 by simp [lr210, lr220, lr230, lr240])) (hp.get (j := 1) rfl) rfl rfl rfl) res_nil) ⟨rfl, (show List.length ((r21 ++ r22 ++ r23 ++ r24) : List Int) = 20 by simp [lr210, lr220, lr230, lr240]), hp.none⟩
/-! 34 (postilion/point.Point).Times -/
noncomputable def point_Point_Times.o1 : Array Oper := opsC (at_ (fbody Try.f34) [0])
noncomputable def point_Point_Times.o2 : Array Oper := opsC (at_ (fbody Try.f34) [1, 0])
noncomputable def point_Point_Times.o3 : Array Oper := opsC (at_ (fbody Try.f34) [1, 1, 0, 0])
noncomputable def point_Point_Times.o4 : Array Oper := opsC (at_ (fbody Try.f34) [1, 1, 0, 1, 0, 0, 0, 0])
noncomputable def point_Point_Times.o5 : Array Oper := opsC (at_ (fbody Try.f34) [1, 1, 0, 1, 0, 0, 1, 0, 0])
noncomputable def point_Point_Times.o6 : Array Oper := opsC (at_ (fbody Try.f34) [1, 1, 0, 1, 0, 0, 1, 1])
noncomputable def point_Point_Times.o7 : Array Oper := opsC (at_ (fbody Try.f34) [1, 1, 1, 0])
noncomputable def point_Point_Times.o8 : Array Oper := opsC (at_ (fbody Try.f34) [1, 1, 1, 1, 0, 0])
noncomputable def point_Point_Times.o9 : Array Oper := opsC (at_ (fbody Try.f34) [1, 1, 1, 1, 0, 1, 0, 0, 0, 0])
noncomputable def point_Point_Times.o10 : Array Oper := opsC (at_ (fbody Try.f34) [1, 1, 1, 1, 0, 1, 0, 0, 1, 0, 0, 0])
noncomputable def point_Point_Times.o11 : Array Oper := opsC (at_ (fbody Try.f34) [1, 1, 1, 1, 0, 1, 0, 0, 1, 0, 0, 1, 0, 0, 0])
noncomputable def point_Point_Times.o12 : Array Oper := opsC (at_ (fbody Try.f34) [1, 1, 1, 1, 0, 1, 0, 0, 1, 0, 0, 1, 0, 0, 1, 1, 0, 0, 0])
noncomputable def point_Point_Times.o13 : Array Oper := opsC (at_ (fbody Try.f34) [1, 1, 1, 1, 0, 1, 0, 0, 1, 0, 0, 1, 0, 0, 1, 1, 0, 0, 1])
noncomputable def point_Point_Times.o14 : Array Oper := opsC (at_ (fbody Try.f34) [1, 1, 1, 1, 0, 1, 0, 0, 1, 0, 0, 1, 0, 0, 1, 1, 1])
noncomputable def point_Point_Times.o15 : Array Oper := opsC (at_ (fbody Try.f34) [1, 1, 1, 1, 0, 1, 0, 0, 1, 1])
noncomputable def point_Point_Times.o16 : Array Oper := opsC (at_ (fbody Try.f34) [1, 1, 1, 1, 1, 0])
theorem point_Point_Times.p1_ok {w0 : World} {Ws : List Wr} {Q : Exit → Env → World → Prop} (g1 g2 g3 g5 : Nat) (a0 : List Int) (a1 : List Int) (la0 : a0.length = 20) (la1 : a1.length = 32) {r : List Int} (hQ0 : ∀ (e' : Env) (w' : World) (z0 : List Int), z0.length = 320 → e' 3 = .pointer (some ⟨g2, 0, none⟩) → e' 4 = .pointer (some ⟨g3, 0, none⟩) → e' 5 = .pointer (some ⟨g5, 0, none⟩) → Hp w0 Ws w' [⟨g1, 0, ints .u64 a0⟩, ⟨g2, 0, ints .u8 a1⟩, ⟨g3, 0, ints .u64 (List.replicate 20 (0 : Int))⟩, ⟨g5, 0, ints .u64 z0⟩] [] → r = (z0) → Q (.exit 0) e' w') : ∀ (k : Nat), ∀ (y6 : List Int) (y7 : Int) (e : Env) (w : World) (ly6 : y6.length = 320) (s2_e : e 2 = .pointer (some ⟨g1, 0, none⟩)) (s3_e : e 3 = .pointer (some ⟨g2, 0, none⟩)) (s4_e : e 4 = .pointer (some ⟨g3, 0, none⟩)) (s5_e : e 5 = .pointer (some ⟨g5, 0, none⟩)) (s6_e : e 6 = .int .i64 y7) (hp : Hp w0 Ws w [⟨g1, 0, ints .u64 a0⟩, ⟨g2, 0, ints .u8 a1⟩, ⟨g3, 0, ints .u64 (List.replicate 20 (0 : Int))⟩, ⟨g5, 0, ints .u64 y6⟩] []) (h : point_Point_Times.p1 k a0 y6 y7 = some r), Lp Try.prog Try.f34.ntmps (at_ (fbody Try.f34) [1, 1, 0, 1, 0, 0]) Q k e w := by
  intro k
  induction k with
  | zero => intro y6 y7 e w ly6 s2_e s3_e s4_e s5_e s6_e hp h; cases h
  | succ k ih =>
    intro y6 y7 e w ly6 s2_e s3_e s4_e s5_e s6_e hp h
    unfold point_Point_Times.p1 at h
    show Wp _ _ _ _ _ _
    refine wseqP (p0 := [1, 1, 0, 1, 0, 0, 0]) (p1 := [1, 1, 0, 1, 0, 0, 1]) rfl rfl rfl ?_
    refine wseqP (p0 := [1, 1, 0, 1, 0, 0, 0, 0]) (p1 := [1, 1, 0, 1, 0, 0, 0, 1]) rfl rfl rfl ?_
    refine wregionT point_Point_Times.o4 (.tp 0 (.tp 1 (.done))) [] rfl rfl (by kernel_rfl) (by kernel_rfl) ?_
    refine k_move (v := .int .i64 y7) rfl s6_e ?_
    refine k_bin (X := .int .i64 y7) (Y := .int .i64 16) rfl rfl rfl rfl ?_
    refine k_end ?_; intro e204 qe204
    have s2_e204 : e204 2 = .pointer (some ⟨g1, 0, none⟩) := (congrFun qe204 2).trans s2_e
    have s3_e204 : e204 3 = .pointer (some ⟨g2, 0, none⟩) := (congrFun qe204 3).trans s3_e
    have s4_e204 : e204 4 = .pointer (some ⟨g3, 0, none⟩) := (congrFun qe204 4).trans s4_e
    have s5_e204 : e204 5 = .pointer (some ⟨g5, 0, none⟩) := (congrFun qe204 5).trans s5_e
    have s6_e204 : e204 6 = .int .i64 y7 := (congrFun qe204 6).trans s6_e
    have s15_e204 : e204 15 = .bool (decide (y7 < 16)) := congrFun qe204 15
    clear qe204
    refine wcondP (p0 := [1, 1, 0, 1, 0, 0, 0, 1, 0]) (p1 := [1, 1, 0, 1, 0, 0, 0, 1, 1]) (t := (decide (y7 < 16))) rfl rfl rfl (by decide) s15_e204 (fun hb => ?_) (fun hb => ?_)
    · replace h := br_t hb h
      refine wskip rfl ?_
      refine wseqP (p0 := [1, 1, 0, 1, 0, 0, 1, 0]) (p1 := [1, 1, 0, 1, 0, 0, 1, 1]) rfl rfl rfl ?_
      refine wblockP (p0 := [1, 1, 0, 1, 0, 0, 1, 0, 0]) 1 rfl rfl ?_
      refine wregionM point_Point_Times.o5 (.tp 0 (.tp 1 (.tp 2 (.tp 3 (.tk 4 (.tk 5 (.ef 6 (.tp 7 (.ef 8 (.done)))))))))) [8] [(0, 0, 511), (0, 0, 511), (2, 2, 511), (4, 4, 511), (8, 8, 0), (0, 0, 0), (48, 511, 511), (127, 1, 511), (255, 511, 511)] rfl rfl (by kernel_rfl) (by kernel_rfl) (Nat.le_of_ble_eq_true (by kernel_rfl)) (by kernel_rfl) (by kernel_rfl) (by kernel_rfl) ?_
      have hp := hp.drew
      refine k_move (v := .int .i64 y7) rfl s6_e204 ?_
      refine k_move (v := .int .i64 y7) rfl s6_e204 ?_
      refine k_bin (X := .int .i64 y7) (Y := .int .i64 1) rfl rfl rfl rfl ?_
      obtain ⟨c8, h⟩ := chk_e h
      refine k_indexA (n := 16) (s := 20) (j := (IntKind.i64.wrap (y7 - 1))) rfl Try.underlying70 (by kernel_rfl) s5_e204 rfl c8 ?_
      refine k_loadA (n := 20) (xs := ints .u64 ((y6.drop (((IntKind.i64.wrap (y7 - 1)) : Int).toNat * 20)).take 20)) (((IntKind.i64.wrap (y7 - 1)) : Int).toNat * 20) rfl (by kernel_rfl) (by kernel_rfl) rfl (hp.get (j := 3) rfl) rfl (show 0 + ((IntKind.i64.wrap (y7 - 1)) : Int).toNat * 20 = 0 + (((IntKind.i64.wrap (y7 - 1)) : Int).toNat * 20) by omega) ((ints_length _ _).trans (show List.length ((y6.drop (((IntKind.i64.wrap (y7 - 1)) : Int).toNat * 20)).take 20) = 20 from part_len ly6 (by have := c8; omega))) (fun m v hm => part_get hm) ?_
      refine k_loadA (n := 20) (xs := ints .u64 a0) 0 rfl (by kernel_rfl) (by kernel_rfl) s2_e204 (hp.get (j := 0) rfl) rfl rfl ((ints_length _ _).trans la0) (fun m v hm => by rw [Nat.zero_add]; exact hm) ?_
      obtain ⟨r9, qr9, h⟩ := bd_e h
      refine k_call [.agg (ints .u64 ((y6.drop (((IntKind.i64.wrap (y7 - 1)) : Int).toNat * 20)).take 20)).toArray, .agg (ints .u64 a0).toArray] rfl (by kernel_rfl) (args2 rfl rfl) (point_Point_Plus_ok k ((y6.drop (((IntKind.i64.wrap (y7 - 1)) : Int).toNat * 20)).take 20) a0 (show List.length ((y6.drop (((IntKind.i64.wrap (y7 - 1)) : Int).toNat * 20)).take 20) = 20 from part_len ly6 (by have := c8; omega)) la0 _ (hp.toR (fun _ h => by cases h)) qr9) ?_
      rintro _ w' ⟨_, rfl, rfl, lr90, hpc⟩
      refine ⟨_, rfl, .inr (.of_below hpc.chg.to_below), ?_⟩; have hp := hp.below hpc.chg.to_below; clear hpc
      obtain ⟨c10, h⟩ := chk_e h
      refine k_indexA (n := 16) (s := 20) (j := y7) rfl Try.underlying70 (by kernel_rfl) s5_e204 rfl c10 ?_
      refine k_storeA (v := .agg (ints .u64 r9).toArray) 3 ((y7 : Int).toNat * 20) (r := ⟨g5, 0, ints .u64 y6⟩) (ints .u64 r9) (ints .u64 (setInts y6 ((y7 : Int).toNat * 20) r9)) rfl (n := 20) (by kernel_rfl) rfl rfl rfl ((ints_length _ _).trans lr90) (ints_one _ _) hp rfl rfl (show 0 + (y7 : Int).toNat * 20 = 0 + ((y7 : Int).toNat * 20) by omega) (by rw [ints_length, ly6]; have := c10; omega) (setMany_ints _ _ _ _) (by decide) ?_; intro w hp
      refine k_end ?_; intro e205 qe205
      have s2_e205 : e205 2 = .pointer (some ⟨g1, 0, none⟩) := (congrFun qe205 2).trans s2_e204
      have s3_e205 : e205 3 = .pointer (some ⟨g2, 0, none⟩) := (congrFun qe205 3).trans s3_e204
      have s4_e205 : e205 4 = .pointer (some ⟨g3, 0, none⟩) := (congrFun qe205 4).trans s4_e204
      have s5_e205 : e205 5 = .pointer (some ⟨g5, 0, none⟩) := (congrFun qe205 5).trans s5_e204
      have s6_e205 : e205 6 = .int .i64 y7 := (congrFun qe205 6).trans s6_e204
      clear qe205
      refine wregionT point_Point_Times.o6 (.tp 0 (.tp 1 (.tp 2 (.done)))) [] rfl rfl (by kernel_rfl) (by kernel_rfl) ?_
      refine k_move (v := .int .i64 y7) rfl s6_e205 ?_
      refine k_bin (X := .int .i64 y7) (Y := .int .i64 1) rfl rfl rfl rfl ?_
      refine k_assign (v := .int .i64 (IntKind.i64.wrap (y7 + 1))) rfl rfl ?_
      refine k_end ?_; intro e206 qe206
      have s2_e206 : e206 2 = .pointer (some ⟨g1, 0, none⟩) := (congrFun qe206 2).trans s2_e205
      have s3_e206 : e206 3 = .pointer (some ⟨g2, 0, none⟩) := (congrFun qe206 3).trans s3_e205
      have s4_e206 : e206 4 = .pointer (some ⟨g3, 0, none⟩) := (congrFun qe206 4).trans s4_e205
      have s5_e206 : e206 5 = .pointer (some ⟨g5, 0, none⟩) := (congrFun qe206 5).trans s5_e205
      obtain ⟨x11, qx11, h⟩ := lt_e h
      have s6_e206 : e206 6 = .int .i64 x11 := (congrFun qe206 6).trans (congrArg (Value.int .i64) qx11.symm)
      clear qe206
      exact ih (setInts y6 ((y7 : Int).toNat * 20) r9) x11 _ _ ((setInts_length _ _ _).trans ly6) s2_e206 s3_e206 s4_e206 s5_e206 s6_e206 (hp.drop (L' := [⟨g1, 0, ints .u64 a0⟩, ⟨g2, 0, ints .u8 a1⟩, ⟨g3, 0, ints .u64 (List.replicate 20 (0 : Int))⟩, ⟨g5, 0, ints .u64 (setInts y6 ((y7 : Int).toNat * 20) r9)⟩]) (List.Sublist.refl _)) h
    · replace h := br_f hb h
      refine wexit rfl ?_
      exact hQ0 _ _ y6 ly6 s3_e204 s4_e204 s5_e204 (hp.drop (L' := [⟨g1, 0, ints .u64 a0⟩, ⟨g2, 0, ints .u8 a1⟩, ⟨g3, 0, ints .u64 (List.replicate 20 (0 : Int))⟩, ⟨g5, 0, ints .u64 y6⟩]) (List.Sublist.refl _)) (Option.some.inj h).symm
theorem point_Point_Times.p3_ok {w0 : World} {Ws : List Wr} {Q : Exit → Env → World → Prop} (g1 g15 g2 g3 g5 : Nat) (y17 : Int) (x19 : List Int) (a0 : List Int) (a1 : List Int) (m13 : List Int) (la0 : a0.length = 20) (la1 : a1.length = 32) (lm13 : m13.length = 320) (lx19 : x19.length = 2) {r : List Int} (hQ0 : ∀ (e' : Env) (w' : World) (z0 : List Int), z0.length = 20 → e' 3 = .pointer (some ⟨g2, 0, none⟩) → e' 4 = .pointer (some ⟨g3, 0, none⟩) → e' 5 = .pointer (some ⟨g5, 0, none⟩) → e' 7 = .pointer (some ⟨g15, 0, none⟩) → e' 8 = .int .i64 y17 → Hp w0 Ws w' [⟨g1, 0, ints .u64 a0⟩, ⟨g2, 0, ints .u8 a1⟩, ⟨g3, 0, ints .u64 (List.replicate 20 (0 : Int))⟩, ⟨g5, 0, ints .u64 m13⟩, ⟨g15, 0, ints .u64 z0⟩] [] → r = (z0) → Q (.exit 4) e' w') : ∀ (k : Nat), ∀ (y20 : List Int) (y21 : Int) (e : Env) (w : World) (ly20 : y20.length = 20) (s3_e : e 3 = .pointer (some ⟨g2, 0, none⟩)) (s4_e : e 4 = .pointer (some ⟨g3, 0, none⟩)) (s5_e : e 5 = .pointer (some ⟨g5, 0, none⟩)) (s7_e : e 7 = .pointer (some ⟨g15, 0, none⟩)) (s8_e : e 8 = .int .i64 y17) (s39_e : e 39 = .agg (ints .u8 x19).toArray) (s40_e : e 40 = .int .i64 y21) (hp : Hp w0 Ws w [⟨g1, 0, ints .u64 a0⟩, ⟨g2, 0, ints .u8 a1⟩, ⟨g3, 0, ints .u64 (List.replicate 20 (0 : Int))⟩, ⟨g5, 0, ints .u64 m13⟩, ⟨g15, 0, ints .u64 y20⟩] []) (h : point_Point_Times.p3 k x19 m13 y20 y21 = some r), Lp Try.prog Try.f34.ntmps (at_ (fbody Try.f34) [1, 1, 1, 1, 0, 1, 0, 0, 1, 0, 0, 1, 0, 0]) Q k e w := by
  intro k
  induction k with
  | zero => intro y20 y21 e w ly20 s3_e s4_e s5_e s7_e s8_e s39_e s40_e hp h; cases h
  | succ k ih =>
    intro y20 y21 e w ly20 s3_e s4_e s5_e s7_e s8_e s39_e s40_e hp h
    unfold point_Point_Times.p3 at h
    show Wp _ _ _ _ _ _
    refine wseqP (p0 := [1, 1, 1, 1, 0, 1, 0, 0, 1, 0, 0, 1, 0, 0, 0]) (p1 := [1, 1, 1, 1, 0, 1, 0, 0, 1, 0, 0, 1, 0, 0, 1]) rfl rfl rfl ?_
    refine wregionT point_Point_Times.o11 (.tp 0 (.done)) [] rfl rfl (by kernel_rfl) (by kernel_rfl) ?_
    refine k_bin (X := .int .i64 y21) (Y := .int .i64 2) rfl s40_e rfl rfl ?_
    refine k_end ?_; intro e212 qe212
    have s3_e212 : e212 3 = .pointer (some ⟨g2, 0, none⟩) := (congrFun qe212 3).trans s3_e
    have s4_e212 : e212 4 = .pointer (some ⟨g3, 0, none⟩) := (congrFun qe212 4).trans s4_e
    have s5_e212 : e212 5 = .pointer (some ⟨g5, 0, none⟩) := (congrFun qe212 5).trans s5_e
    have s7_e212 : e212 7 = .pointer (some ⟨g15, 0, none⟩) := (congrFun qe212 7).trans s7_e
    have s8_e212 : e212 8 = .int .i64 y17 := (congrFun qe212 8).trans s8_e
    have s39_e212 : e212 39 = .agg (ints .u8 x19).toArray := (congrFun qe212 39).trans s39_e
    have s40_e212 : e212 40 = .int .i64 y21 := (congrFun qe212 40).trans s40_e
    have s41_e212 : e212 41 = .bool (decide (y21 < 2)) := congrFun qe212 41
    clear qe212
    refine wseqP (p0 := [1, 1, 1, 1, 0, 1, 0, 0, 1, 0, 0, 1, 0, 0, 1, 0]) (p1 := [1, 1, 1, 1, 0, 1, 0, 0, 1, 0, 0, 1, 0, 0, 1, 1]) rfl rfl rfl ?_
    refine wcondP (p0 := [1, 1, 1, 1, 0, 1, 0, 0, 1, 0, 0, 1, 0, 0, 1, 0, 0]) (p1 := [1, 1, 1, 1, 0, 1, 0, 0, 1, 0, 0, 1, 0, 0, 1, 0, 1]) (t := (decide (y21 < 2))) rfl rfl rfl (by decide) s41_e212 (fun hb => ?_) (fun hb => ?_)
    · replace h := br_t hb h
      refine wskip rfl ?_
      refine wseqP (p0 := [1, 1, 1, 1, 0, 1, 0, 0, 1, 0, 0, 1, 0, 0, 1, 1, 0]) (p1 := [1, 1, 1, 1, 0, 1, 0, 0, 1, 0, 0, 1, 0, 0, 1, 1, 1]) rfl rfl rfl ?_
      refine wblockP (p0 := [1, 1, 1, 1, 0, 1, 0, 0, 1, 0, 0, 1, 0, 0, 1, 1, 0, 0]) 5 rfl rfl ?_
      refine wseqP (p0 := [1, 1, 1, 1, 0, 1, 0, 0, 1, 0, 0, 1, 0, 0, 1, 1, 0, 0, 0]) (p1 := [1, 1, 1, 1, 0, 1, 0, 0, 1, 0, 0, 1, 0, 0, 1, 1, 0, 0, 1]) rfl rfl rfl ?_
      refine wregionT point_Point_Times.o12 (.tp 0 (.tp 1 (.done))) [] rfl rfl (by kernel_rfl) (by kernel_rfl) ?_
      obtain ⟨c22, h⟩ := chk_e h
      refine k_index (n := 2) (v := .int .u8 (x19.getD (y21 : Int).toNat 0)) rfl Try.underlying71 (by kernel_rfl) (by kernel_rfl) s39_e212 s40_e212 c22 (ints_get (idx_lt c22 lx19)) ?_
      refine k_assign (v := .int .u8 (x19.getD (y21 : Int).toNat 0)) rfl rfl ?_
      refine k_end ?_; intro e213 qe213
      have s3_e213 : e213 3 = .pointer (some ⟨g2, 0, none⟩) := (congrFun qe213 3).trans s3_e212
      have s4_e213 : e213 4 = .pointer (some ⟨g3, 0, none⟩) := (congrFun qe213 4).trans s4_e212
      have s5_e213 : e213 5 = .pointer (some ⟨g5, 0, none⟩) := (congrFun qe213 5).trans s5_e212
      have s7_e213 : e213 7 = .pointer (some ⟨g15, 0, none⟩) := (congrFun qe213 7).trans s7_e212
      have s8_e213 : e213 8 = .int .i64 y17 := (congrFun qe213 8).trans s8_e212
      obtain ⟨x23, qx23, h⟩ := lt_e h
      have s10_e213 : e213 10 = .int .u8 x23 := (congrFun qe213 10).trans (congrArg (Value.int .u8) qx23.symm)
      have s39_e213 : e213 39 = .agg (ints .u8 x19).toArray := (congrFun qe213 39).trans s39_e212
      have s40_e213 : e213 40 = .int .i64 y21 := (congrFun qe213 40).trans s40_e212
      clear qe213
      refine wregionM point_Point_Times.o13 (.tk 0 (.tp 5 (.tp 6 (.tk 7 (.ef 1 (.ef 2 (.ef 3 (.ef 4 (.ef 8 (.ef 9 (.done))))))))))) [9] [(0, 0, 0), (1, 1023, 1023), (2, 1023, 1023), (4, 1023, 1023), (8, 1023, 1023), (0, 0, 1023), (32, 32, 1023), (64, 64, 0), (144, 1023, 1023), (511, 1023, 1023)] rfl rfl (by kernel_rfl) (by kernel_rfl) (Nat.le_of_ble_eq_true (by kernel_rfl)) (by kernel_rfl) (by kernel_rfl) (by kernel_rfl) ?_
      have hp := hp.drew
      refine k_loadA (n := 20) (xs := ints .u64 y20) 0 rfl (by kernel_rfl) (by kernel_rfl) s7_e213 (hp.get (j := 4) rfl) rfl rfl ((ints_length _ _).trans ly20) (fun m v hm => by rw [Nat.zero_add]; exact hm) ?_
      refine k_move (v := .int .u8 x23) rfl s10_e213 ?_
      obtain ⟨c24, h⟩ := chk_e h
      refine k_indexA (n := 16) (s := 20) (j := x23) rfl Try.underlying70 (by kernel_rfl) s5_e213 rfl c24 ?_
      refine k_loadA (n := 20) (xs := ints .u64 ((m13.drop ((x23 : Int).toNat * 20)).take 20)) ((x23 : Int).toNat * 20) rfl (by kernel_rfl) (by kernel_rfl) rfl (hp.get (j := 3) rfl) rfl (show 0 + (x23 : Int).toNat * 20 = 0 + ((x23 : Int).toNat * 20) by omega) ((ints_length _ _).trans (show List.length ((m13.drop ((x23 : Int).toNat * 20)).take 20) = 20 from part_len lm13 (by have := c24; omega))) (fun m v hm => part_get hm) ?_
      obtain ⟨r25, qr25, h⟩ := bd_e h
      refine k_call [.agg (ints .u64 y20).toArray] rfl (by kernel_rfl) (args1 rfl) (point_Point_Double_ok k y20 ly20 _ (hp.toR (fun _ h => by cases h)) qr25) ?_
      rintro _ w' ⟨_, rfl, rfl, lr250, hpc⟩
      refine ⟨_, rfl, .inr (.of_below hpc.chg.to_below), ?_⟩; have hp := hp.below hpc.chg.to_below; clear hpc
      obtain ⟨r26, qr26, h⟩ := bd_e h
      refine k_call [.agg (ints .u64 r25).toArray] rfl (by kernel_rfl) (args1 rfl) (point_Point_Double_ok k r25 lr250 _ (hp.toR (fun _ h => by cases h)) qr26) ?_
      rintro _ w' ⟨_, rfl, rfl, lr260, hpc⟩
      refine ⟨_, rfl, .inr (.of_below hpc.chg.to_below), ?_⟩; have hp := hp.below hpc.chg.to_below; clear hpc
      obtain ⟨r27, qr27, h⟩ := bd_e h
      refine k_call [.agg (ints .u64 r26).toArray] rfl (by kernel_rfl) (args1 rfl) (point_Point_Double_ok k r26 lr260 _ (hp.toR (fun _ h => by cases h)) qr27) ?_
      rintro _ w' ⟨_, rfl, rfl, lr270, hpc⟩
      refine ⟨_, rfl, .inr (.of_below hpc.chg.to_below), ?_⟩; have hp := hp.below hpc.chg.to_below; clear hpc
      obtain ⟨r28, qr28, h⟩ := bd_e h
      refine k_call [.agg (ints .u64 r27).toArray] rfl (by kernel_rfl) (args1 rfl) (point_Point_Double_ok k r27 lr270 _ (hp.toR (fun _ h => by cases h)) qr28) ?_
      rintro _ w' ⟨_, rfl, rfl, lr280, hpc⟩
      refine ⟨_, rfl, .inr (.of_below hpc.chg.to_below), ?_⟩; have hp := hp.below hpc.chg.to_below; clear hpc
      obtain ⟨r29, qr29, h⟩ := bd_e h
      refine k_call [.agg (ints .u64 r28).toArray, .agg (ints .u64 ((m13.drop ((x23 : Int).toNat * 20)).take 20)).toArray] rfl (by kernel_rfl) (args2 rfl rfl) (point_Point_Plus_ok k r28 ((m13.drop ((x23 : Int).toNat * 20)).take 20) lr280 (show List.length ((m13.drop ((x23 : Int).toNat * 20)).take 20) = 20 from part_len lm13 (by have := c24; omega)) _ (hp.toR (fun _ h => by cases h)) qr29) ?_
      rintro _ w' ⟨_, rfl, rfl, lr290, hpc⟩
      refine ⟨_, rfl, .inr (.of_below hpc.chg.to_below), ?_⟩; have hp := hp.below hpc.chg.to_below; clear hpc
      refine k_storeA (v := .agg (ints .u64 r29).toArray) 4 0 (r := ⟨g15, 0, ints .u64 y20⟩) (ints .u64 r29) (ints .u64 r29) rfl (n := 20) (by kernel_rfl) s7_e213 rfl rfl ((ints_length _ _).trans lr290) (ints_one _ _) hp rfl rfl rfl (Nat.le_of_eq ((Nat.zero_add _).trans ((ints_length _ _).trans ly20).symm)) (setMany_all _ _ (((ints_length _ _).trans lr290).trans ((ints_length _ _).trans ly20).symm)) (by decide) ?_; intro w hp
      refine k_end ?_; intro e214 qe214
      have s3_e214 : e214 3 = .pointer (some ⟨g2, 0, none⟩) := (congrFun qe214 3).trans s3_e213
      have s4_e214 : e214 4 = .pointer (some ⟨g3, 0, none⟩) := (congrFun qe214 4).trans s4_e213
      have s5_e214 : e214 5 = .pointer (some ⟨g5, 0, none⟩) := (congrFun qe214 5).trans s5_e213
      have s7_e214 : e214 7 = .pointer (some ⟨g15, 0, none⟩) := (congrFun qe214 7).trans s7_e213
      have s8_e214 : e214 8 = .int .i64 y17 := (congrFun qe214 8).trans s8_e213
      have s39_e214 : e214 39 = .agg (ints .u8 x19).toArray := (congrFun qe214 39).trans s39_e213
      have s40_e214 : e214 40 = .int .i64 y21 := (congrFun qe214 40).trans s40_e213
      clear qe214
      refine wregionT point_Point_Times.o14 (.tp 0 (.tp 1 (.done))) [] rfl rfl (by kernel_rfl) (by kernel_rfl) ?_
      refine k_bin (X := .int .i64 y21) (Y := .int .i64 1) rfl s40_e214 rfl rfl ?_
      refine k_move (v := .int .i64 (IntKind.i64.wrap (y21 + 1))) rfl rfl ?_
      refine k_end ?_; intro e215 qe215
      have s3_e215 : e215 3 = .pointer (some ⟨g2, 0, none⟩) := (congrFun qe215 3).trans s3_e214
      have s4_e215 : e215 4 = .pointer (some ⟨g3, 0, none⟩) := (congrFun qe215 4).trans s4_e214
      have s5_e215 : e215 5 = .pointer (some ⟨g5, 0, none⟩) := (congrFun qe215 5).trans s5_e214
      have s7_e215 : e215 7 = .pointer (some ⟨g15, 0, none⟩) := (congrFun qe215 7).trans s7_e214
      have s8_e215 : e215 8 = .int .i64 y17 := (congrFun qe215 8).trans s8_e214
      have s39_e215 : e215 39 = .agg (ints .u8 x19).toArray := (congrFun qe215 39).trans s39_e214
      obtain ⟨x30, qx30, h⟩ := lt_e h
      have s40_e215 : e215 40 = .int .i64 x30 := (congrFun qe215 40).trans (congrArg (Value.int .i64) qx30.symm)
      clear qe215
      exact ih r29 x30 _ _ lr290 s3_e215 s4_e215 s5_e215 s7_e215 s8_e215 s39_e215 s40_e215 (hp.drop (L' := [⟨g1, 0, ints .u64 a0⟩, ⟨g2, 0, ints .u8 a1⟩, ⟨g3, 0, ints .u64 (List.replicate 20 (0 : Int))⟩, ⟨g5, 0, ints .u64 m13⟩, ⟨g15, 0, ints .u64 r29⟩]) (List.Sublist.refl _)) h
    · replace h := br_f hb h
      refine wexit rfl ?_
      exact hQ0 _ _ y20 ly20 s3_e212 s4_e212 s5_e212 s7_e212 s8_e212 (hp.drop (L' := [⟨g1, 0, ints .u64 a0⟩, ⟨g2, 0, ints .u8 a1⟩, ⟨g3, 0, ints .u64 (List.replicate 20 (0 : Int))⟩, ⟨g5, 0, ints .u64 m13⟩, ⟨g15, 0, ints .u64 y20⟩]) (List.Sublist.refl _)) (Option.some.inj h).symm
theorem point_Point_Times.p2_ok {w0 : World} {Ws : List Wr} {Q : Exit → Env → World → Prop} (g1 g15 g2 g3 g5 : Nat) (a0 : List Int) (a1 : List Int) (m13 : List Int) (la0 : a0.length = 20) (la1 : a1.length = 32) (lm13 : m13.length = 320) {r : List Int} (hQ0 : ∀ (e' : Env) (w' : World) (z0 : List Int), z0.length = 20 → e' 4 = .pointer (some ⟨g3, 0, none⟩) → e' 7 = .pointer (some ⟨g15, 0, none⟩) → Hp w0 Ws w' [⟨g1, 0, ints .u64 a0⟩, ⟨g2, 0, ints .u8 a1⟩, ⟨g3, 0, ints .u64 (List.replicate 20 (0 : Int))⟩, ⟨g5, 0, ints .u64 m13⟩, ⟨g15, 0, ints .u64 z0⟩] [] → r = (z0) → Q (.exit 2) e' w') : ∀ (k : Nat), ∀ (y16 : List Int) (y17 : Int) (e : Env) (w : World) (ly16 : y16.length = 20) (s3_e : e 3 = .pointer (some ⟨g2, 0, none⟩)) (s4_e : e 4 = .pointer (some ⟨g3, 0, none⟩)) (s5_e : e 5 = .pointer (some ⟨g5, 0, none⟩)) (s7_e : e 7 = .pointer (some ⟨g15, 0, none⟩)) (s8_e : e 8 = .int .i64 y17) (hp : Hp w0 Ws w [⟨g1, 0, ints .u64 a0⟩, ⟨g2, 0, ints .u8 a1⟩, ⟨g3, 0, ints .u64 (List.replicate 20 (0 : Int))⟩, ⟨g5, 0, ints .u64 m13⟩, ⟨g15, 0, ints .u64 y16⟩] []) (h : point_Point_Times.p2 k a1 m13 y16 y17 = some r), Lp Try.prog Try.f34.ntmps (at_ (fbody Try.f34) [1, 1, 1, 1, 0, 1, 0, 0]) Q k e w := by
  intro k
  induction k with
  | zero => intro y16 y17 e w ly16 s3_e s4_e s5_e s7_e s8_e hp h; cases h
  | succ k ih =>
    intro y16 y17 e w ly16 s3_e s4_e s5_e s7_e s8_e hp h
    unfold point_Point_Times.p2 at h
    show Wp _ _ _ _ _ _
    refine wseqP (p0 := [1, 1, 1, 1, 0, 1, 0, 0, 0]) (p1 := [1, 1, 1, 1, 0, 1, 0, 0, 1]) rfl rfl rfl ?_
    refine wseqP (p0 := [1, 1, 1, 1, 0, 1, 0, 0, 0, 0]) (p1 := [1, 1, 1, 1, 0, 1, 0, 0, 0, 1]) rfl rfl rfl ?_
    refine wregionT point_Point_Times.o9 (.tp 0 (.tp 1 (.done))) [] rfl rfl (by kernel_rfl) (by kernel_rfl) ?_
    refine k_move (v := .int .i64 y17) rfl s8_e ?_
    refine k_bin (X := .int .i64 y17) (Y := .int .i64 0) rfl rfl rfl rfl ?_
    refine k_end ?_; intro e210 qe210
    have s3_e210 : e210 3 = .pointer (some ⟨g2, 0, none⟩) := (congrFun qe210 3).trans s3_e
    have s4_e210 : e210 4 = .pointer (some ⟨g3, 0, none⟩) := (congrFun qe210 4).trans s4_e
    have s5_e210 : e210 5 = .pointer (some ⟨g5, 0, none⟩) := (congrFun qe210 5).trans s5_e
    have s7_e210 : e210 7 = .pointer (some ⟨g15, 0, none⟩) := (congrFun qe210 7).trans s7_e
    have s8_e210 : e210 8 = .int .i64 y17 := (congrFun qe210 8).trans s8_e
    have s28_e210 : e210 28 = .bool (decide (y17 ≥ 0)) := congrFun qe210 28
    clear qe210
    refine wcondP (p0 := [1, 1, 1, 1, 0, 1, 0, 0, 0, 1, 0]) (p1 := [1, 1, 1, 1, 0, 1, 0, 0, 0, 1, 1]) (t := (decide (y17 ≥ 0))) rfl rfl rfl (by decide) s28_e210 (fun hb => ?_) (fun hb => ?_)
    · replace h := br_t hb h
      refine wskip rfl ?_
      refine wseqP (p0 := [1, 1, 1, 1, 0, 1, 0, 0, 1, 0]) (p1 := [1, 1, 1, 1, 0, 1, 0, 0, 1, 1]) rfl rfl rfl ?_
      refine wblockP (p0 := [1, 1, 1, 1, 0, 1, 0, 0, 1, 0, 0]) 3 rfl rfl ?_
      refine wseqP (p0 := [1, 1, 1, 1, 0, 1, 0, 0, 1, 0, 0, 0]) (p1 := [1, 1, 1, 1, 0, 1, 0, 0, 1, 0, 0, 1]) rfl rfl rfl ?_
      refine wregionM point_Point_Times.o10 (.tp 0 (.tp 1 (.tk 2 (.tp 3 (.tp 4 (.tp 5 (.tk 6 (.tp 7 (.tp 8 (.tp 9 (.done))))))))))) [] [(0, 0, 1023), (1, 1, 1023), (2, 2, 0), (4, 4, 1023), (0, 0, 1023), (16, 16, 1023), (32, 32, 0), (64, 64, 1023), (136, 136, 1023), (0, 0, 1023)] rfl rfl (by kernel_rfl) (by kernel_rfl) (Nat.le_of_ble_eq_true (by kernel_rfl)) (by kernel_rfl) (by kernel_rfl) (by kernel_rfl) ?_
      have hp := hp.drew
      refine k_move (v := .int .i64 y17) rfl s8_e210 ?_
      obtain ⟨c18, h⟩ := chk_e h
      refine k_indexA (n := 32) (s := 1) (j := y17) rfl Try.underlying22 (by kernel_rfl) s3_e210 rfl c18 ?_
      refine k_load (j := (y17 : Int).toNat) (v := .int .u8 (a1.getD (y17 : Int).toNat 0)) rfl (by kernel_rfl) rfl (hp.get (j := 1) rfl) rfl (show 0 + (y17 : Int).toNat * 1 = 0 + (y17 : Int).toNat by omega) (ints_get (idx_lt c18 la1)) ?_
      refine k_shr (a := (a1.getD (y17 : Int).toNat 0)) (b := 4) rfl rfl rfl (by decide) ?_
      refine k_move (v := .int .i64 y17) rfl s8_e210 ?_
      refine k_indexA (n := 32) (s := 1) (j := y17) rfl Try.underlying22 (by kernel_rfl) s3_e210 rfl c18 ?_
      refine k_load (j := (y17 : Int).toNat) (v := .int .u8 (a1.getD (y17 : Int).toNat 0)) rfl (by kernel_rfl) rfl (hp.get (j := 1) rfl) rfl (show 0 + (y17 : Int).toNat * 1 = 0 + (y17 : Int).toNat by omega) (ints_get (idx_lt c18 la1)) ?_
      refine k_bin (X := .int .u8 (a1.getD (y17 : Int).toNat 0)) (Y := .int .u8 15) rfl rfl rfl rfl ?_
      refine k_build (v := .agg (ints .u8 [(Int.fdiv (a1.getD (y17 : Int).toNat 0) (2 ^ 4)), (bits .and .u8 (a1.getD (y17 : Int).toNat 0) 15)]).toArray) rfl (fun _ => by kernel_rfl) ?_
      refine k_move (v := .int .i64 0) rfl rfl ?_
      refine k_end ?_; intro e211 qe211
      have s3_e211 : e211 3 = .pointer (some ⟨g2, 0, none⟩) := (congrFun qe211 3).trans s3_e210
      have s4_e211 : e211 4 = .pointer (some ⟨g3, 0, none⟩) := (congrFun qe211 4).trans s4_e210
      have s5_e211 : e211 5 = .pointer (some ⟨g5, 0, none⟩) := (congrFun qe211 5).trans s5_e210
      have s7_e211 : e211 7 = .pointer (some ⟨g15, 0, none⟩) := (congrFun qe211 7).trans s7_e210
      have s8_e211 : e211 8 = .int .i64 y17 := (congrFun qe211 8).trans s8_e210
      obtain ⟨x19, qx19, h⟩ := lt_e h
      have lx19 : x19.length = 2 := (congrArg List.length qx19).trans (rfl : List.length ([(Int.fdiv (a1.getD (y17 : Int).toNat 0) (2 ^ 4)), (bits .and .u8 (a1.getD (y17 : Int).toNat 0) 15)] : List Int) = 2)
      have s39_e211 : e211 39 = .agg (ints .u8 x19).toArray := (congrFun qe211 39).trans (congrArg (fun z => Value.agg (ints .u8 z).toArray) qx19.symm)
      have s40_e211 : e211 40 = .int .i64 0 := congrFun qe211 40
      clear qe211
      refine wblockP (p0 := [1, 1, 1, 1, 0, 1, 0, 0, 1, 0, 0, 1, 0]) 4 rfl rfl ?_
      obtain ⟨r31, qr31, h⟩ := bd_e h
      refine wloopP (p0 := [1, 1, 1, 1, 0, 1, 0, 0, 1, 0, 0, 1, 0, 0]) k rfl rfl (point_Point_Times.p3_ok g1 g15 g2 g3 g5 y17 x19 a0 a1 m13 la0 la1 lm13 lx19 ?hq0 k y16 0 e211 _ ly16 s3_e211 s4_e211 s5_e211 s7_e211 s8_e211 s39_e211 s40_e211 hp qr31)
      case hq0 =>
        intro e216 w m32 lm32 s3_e216 s4_e216 s5_e216 s7_e216 s8_e216 hp qq
        rw [qq] at h; clear qq
        refine wregionT point_Point_Times.o15 (.tp 0 (.tp 1 (.tp 2 (.done)))) [] rfl rfl (by kernel_rfl) (by kernel_rfl) ?_
        refine k_move (v := .int .i64 y17) rfl s8_e216 ?_
        refine k_bin (X := .int .i64 y17) (Y := .int .i64 1) rfl rfl rfl rfl ?_
        refine k_assign (v := .int .i64 (IntKind.i64.wrap (y17 - 1))) rfl rfl ?_
        refine k_end ?_; intro e217 qe217
        have s3_e217 : e217 3 = .pointer (some ⟨g2, 0, none⟩) := (congrFun qe217 3).trans s3_e216
        have s4_e217 : e217 4 = .pointer (some ⟨g3, 0, none⟩) := (congrFun qe217 4).trans s4_e216
        have s5_e217 : e217 5 = .pointer (some ⟨g5, 0, none⟩) := (congrFun qe217 5).trans s5_e216
        have s7_e217 : e217 7 = .pointer (some ⟨g15, 0, none⟩) := (congrFun qe217 7).trans s7_e216
        obtain ⟨x33, qx33, h⟩ := lt_e h
        have s8_e217 : e217 8 = .int .i64 x33 := (congrFun qe217 8).trans (congrArg (Value.int .i64) qx33.symm)
        clear qe217
        exact ih m32 x33 _ _ lm32 s3_e217 s4_e217 s5_e217 s7_e217 s8_e217 (hp.drop (L' := [⟨g1, 0, ints .u64 a0⟩, ⟨g2, 0, ints .u8 a1⟩, ⟨g3, 0, ints .u64 (List.replicate 20 (0 : Int))⟩, ⟨g5, 0, ints .u64 m13⟩, ⟨g15, 0, ints .u64 m32⟩]) (List.Sublist.refl _)) h
    · replace h := br_f hb h
      refine wexit rfl ?_
      exact hQ0 _ _ y16 ly16 s4_e210 s7_e210 (hp.drop (L' := [⟨g1, 0, ints .u64 a0⟩, ⟨g2, 0, ints .u8 a1⟩, ⟨g3, 0, ints .u64 (List.replicate 20 (0 : Int))⟩, ⟨g5, 0, ints .u64 m13⟩, ⟨g15, 0, ints .u64 y16⟩]) (List.Sublist.refl _)) (Option.some.inj h).symm
theorem point_Point_Times_ok (k : Nat) (a0 : List Int) (a1 : List Int) (la0 : a0.length = 20) (la1 : a1.length = 32) (w0 : World) (hp : Hp w0 [] w0 [] []) {r : List Int} (h : point_Point_Times.f k a0 a1 = some r) :
    Calls Try.prog 34 [.agg (ints .u64 a0).toArray, .agg (ints .u8 a1).toArray].toArray w0 fun x w' => ∃ v, x = .returned v ∧ v = .agg (ints .u64 r).toArray ∧ r.length = 20 ∧ Hp w0 [] w' [] [] := by
  refine calls_inP Try.func34 rfl (Nat.le_of_ble_eq_true (by kernel_rfl)) (by kernel_rfl) ?_
  intro e0 qe0
  have s0_e0 : e0 0 = .agg (ints .u64 a0).toArray := congrFun qe0 0
  have s1_e0 : e0 1 = .agg (ints .u8 a1).toArray := congrFun qe0 1
  clear qe0
  unfold point_Point_Times.f at h
  refine wseqP (p0 := [0]) (p1 := [1]) rfl rfl rfl ?_
  refine wregionT point_Point_Times.o1 (.ef 0 (.ef 1 (.ef 2 (.done)))) [] rfl rfl (by kernel_rfl) (by kernel_rfl) ?_
  refine k_box (v := .agg (ints .u64 a0).toArray) (ints .u64 a0) rfl s0_e0 rfl hp ?_
  intro g1 w hbg1 hp
  refine k_box (v := .agg (ints .u8 a1).toArray) (ints .u8 a1) rfl s1_e0 rfl hp ?_
  intro g2 w hbg2 hp
  refine k_alloc (ints .u64 (List.replicate 20 (0 : Int))) rfl (by kernel_rfl) hp ?_
  intro g3 w hbg3 hp
  refine k_end ?_; intro e201 qe201
  have s2_e201 : e201 2 = .pointer (some ⟨g1, 0, none⟩) := congrFun qe201 2
  have s3_e201 : e201 3 = .pointer (some ⟨g2, 0, none⟩) := congrFun qe201 3
  have s4_e201 : e201 4 = .pointer (some ⟨g3, 0, none⟩) := congrFun qe201 4
  clear qe201
  refine wseqP (p0 := [1, 0]) (p1 := [1, 1]) rfl rfl rfl ?_
  obtain ⟨r4, qr4, h⟩ := bd_e h
  refine wcut (fun e202 w2 => ∃ g5 : Nat, (((r4.length = 20 ∧ e202 2 = .pointer (some ⟨g1, 0, none⟩)) ∧ e202 3 = .pointer (some ⟨g2, 0, none⟩)) ∧ (e202 4 = .pointer (some ⟨g3, 0, none⟩) ∧ e202 5 = .pointer (some ⟨g5, 0, none⟩))) ∧ Hp w0 [] w2 [⟨g1, 0, ints .u64 a0⟩, ⟨g2, 0, ints .u8 a1⟩, ⟨g3, 0, ints .u64 (List.replicate 20 (0 : Int))⟩, ⟨g5, 0, ints .u64 (r4 ++ a0 ++ (List.replicate 280 (0 : Int)))⟩] []) ?_ ?_
  rotate_left
  · refine wregionM point_Point_Times.o2 (.tk 1 (.rest 2 4)) [4] [(0, 31, 31), (0, 0, 0), (3, 31, 31), (0, 31, 31), (15, 31, 31)] rfl rfl (by kernel_rfl) (by kernel_rfl) (Nat.le_of_ble_eq_true (by kernel_rfl)) (by kernel_rfl) (by kernel_rfl) (by kernel_rfl) ?_
    have hp := hp.drew
    refine k_loadA (n := 20) (xs := ints .u64 a0) 0 rfl (by kernel_rfl) (by kernel_rfl) s2_e201 (hp.get (j := 0) rfl) rfl rfl ((ints_length _ _).trans la0) (fun m v hm => by rw [Nat.zero_add]; exact hm) ?_
    refine k_rest [0, 2, 3, 4] (fun L e w => ∃ g5 : Nat, ∃ c_g5_0 : List Int, ((((L 0 = true → r4.length = 20) ∧ ((e 2 = .pointer (some ⟨g1, 0, none⟩) ∧ e 3 = .pointer (some ⟨g2, 0, none⟩)) ∧ (e 4 = .pointer (some ⟨g3, 0, none⟩) ∧ e 12 = .agg (ints .u64 a0).toArray))) ∧ ((L 0 = true → e 11 = .agg (ints .u64 r4).toArray) ∧ (L 2 = true → e 13 = .agg (ints .u64 (r4 ++ a0 ++ (List.replicate 280 (0 : Int)))).toArray))) ∧ (((L 3 = true → e 5 = .pointer (some ⟨g5, 0, none⟩)) ∧ (L 3 = false → c_g5_0 = ([] : List Int))) ∧ ((L 4 = false → L 3 = true → c_g5_0 = (List.replicate 320 (0 : Int))) ∧ (L 4 = true → c_g5_0 = (r4 ++ a0 ++ (List.replicate 280 (0 : Int))))))) ∧ Hp w0 [] w [⟨g1, 0, ints .u64 a0⟩, ⟨g2, 0, ints .u8 a1⟩, ⟨g3, 0, ints .u64 (List.replicate 20 (0 : Int))⟩, ⟨g5, 0, ints .u64 c_g5_0⟩] []) (by kernel_rfl) (by kernel_rfl) ?_ ?_ ?_
    have hp := hp.free1 0 0
    · exact ⟨0, ([] : List Int), ⟨⟨⟨(fun h => absurd h (by decide)), ⟨⟨s2_e201, s3_e201⟩, ⟨s4_e201, rfl⟩⟩⟩, ⟨(fun h => absurd h (by decide)), (fun h => absurd h (by decide))⟩⟩, ⟨⟨(fun h => absurd h (by decide)), (fun _ => rfl)⟩, ⟨(fun _ h => absurd h (by decide)), (fun h => absurd h (by decide))⟩⟩⟩, hp⟩
    · rintro L e w hall ⟨g5, c_g5_0, hF, hp⟩
      have qc_g5_0 := hF.2.2.2 (hall 4 rfl)
      rw [qc_g5_0] at hp
      exact onlyN_i ⟨g5, ⟨⟨⟨(hF.1.1.1 (hall 0 rfl)), hF.1.1.2.1.1⟩, hF.1.1.2.1.2⟩, ⟨hF.1.1.2.2.1, (hF.2.1.1 (hall 3 rfl))⟩⟩, hp⟩
    refine allU_cons ?_ ?_
    · rintro L e w hLi hb hcl ⟨g5, c_g5_0, hF, hp⟩
      refine k_call [] rfl (by kernel_rfl) (args0 ) (point_Origin_ok   _ (hp.toR (fun _ h => by cases h)) qr4) ?_
      rintro _ w' ⟨_, rfl, rfl, lr40, hpc⟩
      refine ⟨_, rfl, .inr (.of_below hpc.chg.to_below), ?_⟩; have hp := hp.below hpc.chg.to_below; clear hpc
      exact k_done ⟨g5, c_g5_0, ⟨⟨⟨(fun _ => lr40), hF.1.1.2⟩, ⟨(fun _ => rfl), hF.1.2.2⟩⟩, hF.2⟩, hp⟩
    refine allU_cons ?_ ?_
    · rintro L e w hLi hb hcl ⟨g5, c_g5_0, hF, hp⟩
      have hL0 := hb 0 (by kernel_rfl)
      have lr40 := hF.1.1.1 hL0
      refine tp_ef ?_
      refine k_buildP (v := .agg (ints .u64 (r4 ++ a0 ++ (List.replicate 280 (0 : Int)))).toArray) [(0, .agg (ints .u64 r4).toArray), (1, .agg (ints .u64 a0).toArray)] rfl (pcons (hF.1.2.1 hL0) (pcons hF.1.1.2.2.2 pnil)) (fun _ => by rw [lst r4 lr40, lst a0 la0]; kernel_rfl) ?_
      exact k_done ⟨g5, c_g5_0, ⟨⟨hF.1.1, ⟨hF.1.2.1, (fun _ => rfl)⟩⟩, hF.2⟩, hp⟩
    refine allU_cons ?_ ?_
    · rintro L e w hLi hb hcl ⟨g5, c_g5_0, hF, hp⟩
      have qc_g5_0 := hF.2.1.2 hLi
      rw [qc_g5_0] at hp
      refine k_allocAt 3 (ints .u64 (List.replicate 320 (0 : Int))) rfl (by kernel_rfl) hp ?_
      intro g5 w hbg5 hp
      exact k_done ⟨g5, (List.replicate 320 (0 : Int)), ⟨hF.1, ⟨⟨(fun _ => rfl), (fun h => nomatch (show true = false from h))⟩, ⟨(fun _ _ => rfl), (fun h => absurd (hLi.symm.trans (hcl 4 3 (by kernel_rfl) h)) (by decide))⟩⟩⟩, hp⟩
    refine allU_cons ?_ allU_nil
    · rintro L e w hLi hb hcl ⟨g5, c_g5_0, hF, hp⟩
      have hL0 := hb 0 (by kernel_rfl)
      have hL2 := hb 2 (by kernel_rfl)
      have hL3 := hb 3 (by kernel_rfl)
      have lr40 := hF.1.1.1 hL0
      have qc_g5_0 := hF.2.2.1 hLi hL3
      rw [qc_g5_0] at hp
      refine k_storeA (v := .agg (ints .u64 (r4 ++ a0 ++ (List.replicate 280 (0 : Int)))).toArray) 3 0 (r := ⟨g5, 0, ints .u64 (List.replicate 320 (0 : Int))⟩) (ints .u64 (r4 ++ a0 ++ (List.replicate 280 (0 : Int)))) (ints .u64 (r4 ++ a0 ++ (List.replicate 280 (0 : Int)))) rfl (n := 320) (by kernel_rfl) (hF.2.1.1 hL3) (hF.1.2.2 hL2) rfl ((ints_length _ _).trans (show List.length ((r4 ++ a0 ++ (List.replicate 280 (0 : Int))) : List Int) = 320 by simp [lr40, la0])) (ints_one _ _) hp rfl rfl rfl (Nat.le_of_eq ((Nat.zero_add _).trans ((ints_length _ _).trans List.length_replicate).symm)) (setMany_all _ _ (((ints_length _ _).trans (show List.length ((r4 ++ a0 ++ (List.replicate 280 (0 : Int))) : List Int) = 320 by simp [lr40, la0])).trans ((ints_length _ _).trans List.length_replicate).symm)) (by decide) ?_; intro w hp
      exact k_done ⟨g5, (r4 ++ a0 ++ (List.replicate 280 (0 : Int))), ⟨hF.1, ⟨⟨hF.2.1.1, (fun h => absurd (hL3.symm.trans h) (by decide))⟩, ⟨(fun h _ => nomatch (show true = false from h)), (fun _ => rfl)⟩⟩⟩, hp⟩
  rintro e202 w ⟨g5, hF, hp⟩
  have lr40 := hF.1.1.1
  have s2_e202 := hF.1.1.2
  have s3_e202 := hF.1.2
  have s4_e202 := hF.2.1
  have s5_e202 := hF.2.2
  clear hF
  refine wseqP (p0 := [1, 1, 0]) (p1 := [1, 1, 1]) rfl rfl rfl ?_
  refine wseqP (p0 := [1, 1, 0, 0]) (p1 := [1, 1, 0, 1]) rfl rfl rfl ?_
  refine wregionT point_Point_Times.o3 (.tp 0 (.done)) [] rfl rfl (by kernel_rfl) (by kernel_rfl) ?_
  refine k_assign (v := .int .i64 2) rfl rfl ?_
  refine k_end ?_; intro e203 qe203
  have s2_e203 : e203 2 = .pointer (some ⟨g1, 0, none⟩) := (congrFun qe203 2).trans s2_e202
  have s3_e203 : e203 3 = .pointer (some ⟨g2, 0, none⟩) := (congrFun qe203 3).trans s3_e202
  have s4_e203 : e203 4 = .pointer (some ⟨g3, 0, none⟩) := (congrFun qe203 4).trans s4_e202
  have s5_e203 : e203 5 = .pointer (some ⟨g5, 0, none⟩) := (congrFun qe203 5).trans s5_e202
  have s6_e203 : e203 6 = .int .i64 2 := congrFun qe203 6
  clear qe203
  refine wblockP (p0 := [1, 1, 0, 1, 0]) 0 rfl rfl ?_
  obtain ⟨r12, qr12, h⟩ := bd_e h
  refine wloopP (p0 := [1, 1, 0, 1, 0, 0]) k rfl rfl (point_Point_Times.p1_ok g1 g2 g3 g5 a0 a1 la0 la1 ?hq0 k (r4 ++ a0 ++ (List.replicate 280 (0 : Int))) 2 e203 _ (show List.length ((r4 ++ a0 ++ (List.replicate 280 (0 : Int))) : List Int) = 320 by simp [lr40, la0]) s2_e203 s3_e203 s4_e203 s5_e203 s6_e203 hp qr12)
  case hq0 =>
    intro e207 w m13 lm13 s3_e207 s4_e207 s5_e207 hp qq
    rw [qq] at h; clear qq
    refine wseqP (p0 := [1, 1, 1, 0]) (p1 := [1, 1, 1, 1]) rfl rfl rfl ?_
    refine wregionT point_Point_Times.o7 (.ef 0 (.ef 1 (.ef 2 (.done)))) [2] rfl rfl (by kernel_rfl) (by kernel_rfl) ?_
    obtain ⟨r14, qr14, h⟩ := bd_e h
    refine k_call [] rfl (by kernel_rfl) (args0 ) (point_Origin_ok   _ (hp.toR (fun _ h => by cases h)) qr14) ?_
    rintro _ w' ⟨_, rfl, rfl, lr140, hpc⟩
    refine ⟨_, rfl, .inr (.of_below hpc.chg.to_below), ?_⟩; have hp := hp.below hpc.chg.to_below; clear hpc
    refine k_alloc (ints .u64 (List.replicate 20 (0 : Int))) rfl (by kernel_rfl) hp ?_
    intro g15 w hbg15 hp
    refine k_storeA (v := .agg (ints .u64 r14).toArray) 4 0 (r := ⟨g15, 0, ints .u64 (List.replicate 20 (0 : Int))⟩) (ints .u64 r14) (ints .u64 r14) rfl (n := 20) (by kernel_rfl) rfl rfl rfl ((ints_length _ _).trans lr140) (ints_one _ _) hp rfl rfl rfl (Nat.le_of_eq ((Nat.zero_add _).trans ((ints_length _ _).trans List.length_replicate).symm)) (setMany_all _ _ (((ints_length _ _).trans lr140).trans ((ints_length _ _).trans List.length_replicate).symm)) (by decide) ?_; intro w hp
    refine k_end ?_; intro e208 qe208
    have s3_e208 : e208 3 = .pointer (some ⟨g2, 0, none⟩) := (congrFun qe208 3).trans s3_e207
    have s4_e208 : e208 4 = .pointer (some ⟨g3, 0, none⟩) := (congrFun qe208 4).trans s4_e207
    have s5_e208 : e208 5 = .pointer (some ⟨g5, 0, none⟩) := (congrFun qe208 5).trans s5_e207
    have s7_e208 : e208 7 = .pointer (some ⟨g15, 0, none⟩) := congrFun qe208 7
    clear qe208
    refine wseqP (p0 := [1, 1, 1, 1, 0]) (p1 := [1, 1, 1, 1, 1]) rfl rfl rfl ?_
    refine wseqP (p0 := [1, 1, 1, 1, 0, 0]) (p1 := [1, 1, 1, 1, 0, 1]) rfl rfl rfl ?_
    refine wregionT point_Point_Times.o8 (.tp 0 (.done)) [] rfl rfl (by kernel_rfl) (by kernel_rfl) ?_
    refine k_assign (v := .int .i64 31) rfl rfl ?_
    refine k_end ?_; intro e209 qe209
    have s3_e209 : e209 3 = .pointer (some ⟨g2, 0, none⟩) := (congrFun qe209 3).trans s3_e208
    have s4_e209 : e209 4 = .pointer (some ⟨g3, 0, none⟩) := (congrFun qe209 4).trans s4_e208
    have s5_e209 : e209 5 = .pointer (some ⟨g5, 0, none⟩) := (congrFun qe209 5).trans s5_e208
    have s7_e209 : e209 7 = .pointer (some ⟨g15, 0, none⟩) := (congrFun qe209 7).trans s7_e208
    have s8_e209 : e209 8 = .int .i64 31 := congrFun qe209 8
    clear qe209
    refine wblockP (p0 := [1, 1, 1, 1, 0, 1, 0]) 2 rfl rfl ?_
    obtain ⟨r34, qr34, h⟩ := bd_e h
    refine wloopP (p0 := [1, 1, 1, 1, 0, 1, 0, 0]) k rfl rfl (point_Point_Times.p2_ok g1 g15 g2 g3 g5 a0 a1 m13 la0 la1 lm13 ?hq0 k r14 31 e209 _ lr140 s3_e209 s4_e209 s5_e209 s7_e209 s8_e209 hp qr34)
    case hq0 =>
      intro e218 w m35 lm35 s4_e218 s7_e218 hp qq
      rw [qq] at h; clear qq
      refine wseqP (p0 := [1, 1, 1, 1, 1, 0]) (p1 := [1, 1, 1, 1, 1, 1]) rfl rfl rfl ?_
      refine wregionT point_Point_Times.o16 (.tk 0 (.ef 1 (.done))) [1] rfl rfl (by kernel_rfl) (by kernel_rfl) ?_
      refine k_loadA (n := 20) (xs := ints .u64 m35) 0 rfl (by kernel_rfl) (by kernel_rfl) s7_e218 (hp.get (j := 4) rfl) rfl rfl ((ints_length _ _).trans lm35) (fun m v hm => by rw [Nat.zero_add]; exact hm) ?_
      refine k_storeA (v := .agg (ints .u64 m35).toArray) 2 0 (r := ⟨g3, 0, ints .u64 (List.replicate 20 (0 : Int))⟩) (ints .u64 m35) (ints .u64 m35) rfl (n := 20) (by kernel_rfl) s4_e218 rfl rfl ((ints_length _ _).trans lm35) (ints_one _ _) hp rfl rfl rfl (Nat.le_of_eq ((Nat.zero_add _).trans ((ints_length _ _).trans List.length_replicate).symm)) (setMany_all _ _ (((ints_length _ _).trans lm35).trans ((ints_length _ _).trans List.length_replicate).symm)) (by decide) ?_; intro w hp
      refine k_end ?_; intro e219 qe219
      have s4_e219 : e219 4 = .pointer (some ⟨g3, 0, none⟩) := (congrFun qe219 4).trans s4_e218
      clear qe219
      refine wret rfl ?_
      have hr : r = m35 := (Option.some.inj h).symm
      show RetP _ _ _ _ _
      rw [hr]
      exact ret_i [.agg (ints .u64 m35).toArray] (res_cell s4_e219 (loadVar_agg (by kernel_rfl) (by kernel_rfl) ((ints_length _ _).trans lm35) (hp.get (j := 2) rfl) rfl rfl rfl) res_nil) ⟨rfl, lm35, hp.none⟩
/-! 12 postilion/point.Base -/
noncomputable def point_Base.o1 : Array Oper := opsC (at_ (fbody Try.f12) [0])
noncomputable def point_Base.o2 : Array Oper := opsC (at_ (fbody Try.f12) [1, 0])
theorem point_Base_ok (k : Nat) (a0 : List Int) (la0 : a0.length = 32) (w0 : World) (hp : Hp w0 [] w0 [] []) {r : List Int} (h : point_Base.f k a0 = some r) :
    Calls Try.prog 12 [.agg (ints .u8 a0).toArray].toArray w0 fun x w' => ∃ v, x = .returned v ∧ v = .agg (ints .u8 r).toArray ∧ r.length = 32 ∧ Hp w0 [] w' [] [] := by
  refine calls_inP Try.func12 rfl (Nat.le_of_ble_eq_true (by kernel_rfl)) (by kernel_rfl) ?_
  intro e0 qe0
  have s0_e0 : e0 0 = .agg (ints .u8 a0).toArray := congrFun qe0 0
  clear qe0
  unfold point_Base.f at h
  refine wseqP (p0 := [0]) (p1 := [1]) rfl rfl rfl ?_
  refine wregionT point_Base.o1 (.ef 0 (.ef 1 (.done))) [] rfl rfl (by kernel_rfl) (by kernel_rfl) ?_
  refine k_box (v := .agg (ints .u8 a0).toArray) (ints .u8 a0) rfl s0_e0 rfl hp ?_
  intro g1 w hbg1 hp
  refine k_alloc (ints .u8 (List.replicate 32 (0 : Int))) rfl (by kernel_rfl) hp ?_
  intro g2 w hbg2 hp
  refine k_end ?_; intro e220 qe220
  have s1_e220 : e220 1 = .pointer (some ⟨g1, 0, none⟩) := congrFun qe220 1
  have s2_e220 : e220 2 = .pointer (some ⟨g2, 0, none⟩) := congrFun qe220 2
  clear qe220
  refine wseqP (p0 := [1, 0]) (p1 := [1, 1]) rfl rfl rfl ?_
  refine wregionM point_Base.o2 (.tk 1 (.ef 0 (.ef 2 (.ef 3 (.ef 4 (.done)))))) [4] [(0, 31, 31), (0, 0, 0), (3, 31, 31), (4, 31, 31), (15, 31, 31)] rfl rfl (by kernel_rfl) (by kernel_rfl) (Nat.le_of_ble_eq_true (by kernel_rfl)) (by kernel_rfl) (by kernel_rfl) (by kernel_rfl) ?_
  have hp := hp.drew
  refine k_loadA (n := 32) (xs := ints .u8 a0) 0 rfl (by kernel_rfl) (by kernel_rfl) s1_e220 (hp.get (j := 0) rfl) rfl rfl ((ints_length _ _).trans la0) (fun m v hm => by rw [Nat.zero_add]; exact hm) ?_
  obtain ⟨r3, qr3, h⟩ := bd_e h
  refine k_call [] rfl (by kernel_rfl) (args0 ) (point_B_ok   _ (hp.toR (fun _ h => by cases h)) qr3) ?_
  rintro _ w' ⟨_, rfl, rfl, lr30, hpc⟩
  refine ⟨_, rfl, .inr (.of_below hpc.chg.to_below), ?_⟩; have hp := hp.below hpc.chg.to_below; clear hpc
  obtain ⟨r4, qr4, h⟩ := bd_e h
  refine k_call [.agg (ints .u64 r3).toArray, .agg (ints .u8 a0).toArray] rfl (by kernel_rfl) (args2 rfl rfl) (point_Point_Times_ok k r3 a0 lr30 la0 _ (hp.toR (fun _ h => by cases h)) qr4) ?_
  rintro _ w' ⟨_, rfl, rfl, lr40, hpc⟩
  refine ⟨_, rfl, .inr (.of_below hpc.chg.to_below), ?_⟩; have hp := hp.below hpc.chg.to_below; clear hpc
  obtain ⟨r5, qr5, h⟩ := bd_e h
  refine k_call [.agg (ints .u64 r4).toArray] rfl (by kernel_rfl) (args1 rfl) (point_Point_Bytes_ok k r4 lr40 _ (hp.toR (fun _ h => by cases h)) qr5) ?_
  rintro _ w' ⟨_, rfl, rfl, lr50, hpc⟩
  refine ⟨_, rfl, .inr (.of_below hpc.chg.to_below), ?_⟩; have hp := hp.below hpc.chg.to_below; clear hpc
  refine k_storeA (v := .agg (ints .u8 r5).toArray) 1 0 (r := ⟨g2, 0, ints .u8 (List.replicate 32 (0 : Int))⟩) (ints .u8 r5) (ints .u8 r5) rfl (n := 32) (by kernel_rfl) s2_e220 rfl rfl ((ints_length _ _).trans lr50) (ints_one _ _) hp rfl rfl rfl (Nat.le_of_eq ((Nat.zero_add _).trans ((ints_length _ _).trans List.length_replicate).symm)) (setMany_all _ _ (((ints_length _ _).trans lr50).trans ((ints_length _ _).trans List.length_replicate).symm)) (by decide) ?_; intro w hp
  refine k_end ?_; intro e221 qe221
  have s2_e221 : e221 2 = .pointer (some ⟨g2, 0, none⟩) := (congrFun qe221 2).trans s2_e220
  clear qe221
  refine wret rfl ?_
  have hr : r = r5 := (Option.some.inj h).symm
  show RetP _ _ _ _ _
  rw [hr]
  exact ret_i [.agg (ints .u8 r5).toArray] (res_cell s2_e221 (loadVar_agg (by kernel_rfl) (by kernel_rfl) ((ints_length _ _).trans lr50) (hp.get (j := 1) rfl) rfl rfl rfl) res_nil) ⟨rfl, lr50, hp.none⟩
/-! 13 postilion/point.Zero -/
noncomputable def point_Zero.o1 : Array Oper := opsC (at_ (fbody Try.f13) [0])
noncomputable def point_Zero.o2 : Array Oper := opsC (at_ (fbody Try.f13) [1, 0])
theorem point_Zero_ok  (w0 : World) (hp : Hp w0 [] w0 [] []) {r : List Int} (h : point_Zero.f  = some r) :
    Calls Try.prog 13 [].toArray w0 fun x w' => ∃ v, x = .returned v ∧ v = .agg (ints .u8 r).toArray ∧ r.length = 32 ∧ Hp w0 [] w' [] [] := by
  refine calls_inP Try.func13 rfl (Nat.le_of_ble_eq_true (by kernel_rfl)) (by kernel_rfl) ?_
  intro e0 qe0
  clear qe0
  unfold point_Zero.f at h
  refine wseqP (p0 := [0]) (p1 := [1]) rfl rfl rfl ?_
  refine wregionT point_Zero.o1 (.ef 0 (.done)) [] rfl rfl (by kernel_rfl) (by kernel_rfl) ?_
  refine k_alloc (ints .u8 (List.replicate 32 (0 : Int))) rfl (by kernel_rfl) hp ?_
  intro g1 w hbg1 hp
  refine k_end ?_; intro e222 qe222
  have s0_e222 : e222 0 = .pointer (some ⟨g1, 0, none⟩) := congrFun qe222 0
  clear qe222
  refine wseqP (p0 := [1, 0]) (p1 := [1, 1]) rfl rfl rfl ?_
  refine wregionT point_Zero.o2 (.tp 0 (.ef 1 (.done))) [1] rfl rfl (by kernel_rfl) (by kernel_rfl) ?_
  refine k_build (v := .agg (ints .u8 ((List.replicate 32 (0 : Int)).set 0 1)).toArray) rfl (fun _ => by kernel_rfl) ?_
  refine k_storeA (v := .agg (ints .u8 ((List.replicate 32 (0 : Int)).set 0 1)).toArray) 0 0 (r := ⟨g1, 0, ints .u8 (List.replicate 32 (0 : Int))⟩) (ints .u8 ((List.replicate 32 (0 : Int)).set 0 1)) (ints .u8 ((List.replicate 32 (0 : Int)).set 0 1)) rfl (n := 32) (by kernel_rfl) s0_e222 rfl rfl ((ints_length _ _).trans (List.length_set.trans List.length_replicate)) (ints_one _ _) hp rfl rfl rfl (Nat.le_of_eq ((Nat.zero_add _).trans ((ints_length _ _).trans List.length_replicate).symm)) (setMany_all _ _ (((ints_length _ _).trans (List.length_set.trans List.length_replicate)).trans ((ints_length _ _).trans List.length_replicate).symm)) (by decide) ?_; intro w hp
  refine k_end ?_; intro e223 qe223
  have s0_e223 : e223 0 = .pointer (some ⟨g1, 0, none⟩) := (congrFun qe223 0).trans s0_e222
  clear qe223
  refine wret rfl ?_
  have hr : r = ((List.replicate 32 (0 : Int)).set 0 1) := (Option.some.inj h).symm
  show RetP _ _ _ _ _
  rw [hr]
  exact ret_i [.agg (ints .u8 ((List.replicate 32 (0 : Int)).set 0 1)).toArray] (res_cell s0_e223 (loadVar_agg (by kernel_rfl) (by kernel_rfl) ((ints_length _ _).trans (List.length_set.trans List.length_replicate)) (hp.get (j := 0) rfl) rfl rfl rfl) res_nil) ⟨rfl, (List.length_set.trans List.length_replicate), hp.none⟩
/-! 3 postilion/postilionlaw06.PointOrder -/
noncomputable def postilionlaw06_PointOrder.o1 : Array Oper := opsC (at_ (fbody Try.f3) [0])
noncomputable def postilionlaw06_PointOrder.o2 : Array Oper := opsC (at_ (fbody Try.f3) [1, 0])
noncomputable def postilionlaw06_PointOrder.o3 : Array Oper := opsC (at_ (fbody Try.f3) [1, 1, 0])
noncomputable def postilionlaw06_PointOrder.o4 : Array Oper := opsC (at_ (fbody Try.f3) [1, 1, 1, 0])
noncomputable def postilionlaw06_PointOrder.o5 : Array Oper := opsC (at_ (fbody Try.f3) [1, 1, 1, 1, 0])
noncomputable def postilionlaw06_PointOrder.o6 : Array Oper := opsC (at_ (fbody Try.f3) [1, 1, 1, 1, 1, 0])
set_option maxHeartbeats 4000000 in
theorem postilionlaw06_PointOrder.p1_ok {w0 : World} {Ws : List Wr} {Q : Exit → Env → World → Prop} (k : Nat) (g1 g3 g6 : Nat) (x7 : Int) (x2 : List Int) (r5 : List Int × Int) (lx2 : x2.length = 32) (lr50 : r5.1.length = 32) {r : Bool} (hQ0 : ∀ (e' : Env) (w' : World) (z0 : Bool), e' 0 = .bool z0 → Hp w0 Ws w' [⟨g1, 0, ints .u8 x2⟩, ⟨g3, 0, ints .u8 (x2.set 0 (IntKind.u8.wrap ((x2.getD 0 0) - 1)))⟩, ⟨g6, 0, ints .u8 r5.1⟩] [] → r = (z0) → Q .normal e' w') (e : Env) (w : World) (s1_e : e 1 = .pointer (some ⟨g1, 0, none⟩)) (s2_e : e 2 = .pointer (some ⟨g3, 0, none⟩)) (s3_e : e 3 = .pointer (some ⟨g6, 0, none⟩)) (s4_e : e 4 = .int .i64 x7) (hp : Hp w0 Ws w [⟨g1, 0, ints .u8 x2⟩, ⟨g3, 0, ints .u8 (x2.set 0 (IntKind.u8.wrap ((x2.getD 0 0) - 1)))⟩, ⟨g6, 0, ints .u8 r5.1⟩] []) (h : postilionlaw06_PointOrder.p1 k x7 x2 r5 = some r) : Wp Try.prog Try.f3.ntmps (at_ (fbody Try.f3) [1, 1, 1, 1, 1, 0]) Q e w := by
  unfold postilionlaw06_PointOrder.p1 at h
  refine wregionM postilionlaw06_PointOrder.o6 (.ef 0 (.tp 1 (.tk 2 (.ef 3 (.ef 4 (.tp 5 (.tp 6 (.tp 7 (.tp 8 (.tp 9 (.tp 10 (.tp 11 (.tk 12 (.tk 14 (.ef 13 (.tp 15 (.tp 16 (.tp 17 (.tp 18 (.ef 19 (.ef 20 (.tp 21 (.tp 22 (.tp 23 (.done))))))))))))))))))))))))) [] [(0, 16777215, 16777215), (1, 1, 16777215), (2, 2, 0), (6, 16777215, 16777215), (10, 16777215, 16777215), (26, 26, 16777215), (34, 34, 16777215), (80, 64, 16777215), (128, 128, 16777215), (384, 384, 16777215), (640, 640, 16777215), (1152, 1024, 16777215), (2048, 2048, 0), (6144, 16777215, 16777215), (2048, 2048, 0), (26624, 26624, 16777215), (34816, 34816, 16777215), (73728, 65536, 16777215), (131072, 131072, 16777215), (393216, 16777215, 16777215), (655360, 16777215, 16777215), (1703936, 1703936, 16777215), (2228224, 2228224, 16777215), (8388607, 4194304, 16777215)] rfl rfl (by kernel_rfl) (by kernel_rfl) (Nat.le_of_ble_eq_true (by kernel_rfl)) (by kernel_rfl) (by kernel_rfl) (by kernel_rfl) ?_
  have hp := hp.drew
  obtain ⟨r8, qr8, h⟩ := bd_e h
  refine k_call [] rfl (by kernel_rfl) (args0 ) (postilionlaw06_awake_ok k   _ (hp.toR (fun _ h => by cases h)) qr8) ?_
  rintro _ w' ⟨_, rfl, rfl, hpc⟩
  refine ⟨_, rfl, .inr (.of_below hpc.chg.to_below), ?_⟩; have hp := hp.below hpc.chg.to_below; clear hpc
  rcases Bool.eq_false_or_eq_true r8 with hb | hb
  · replace h := br_t hb h
    refine k_move (v := .bool true) rfl (Eq.trans (b := .bool r8) rfl (congrArg Value.bool hb)) ?_
    refine k_loadA (n := 32) (xs := ints .u8 x2) 0 rfl (by kernel_rfl) (by kernel_rfl) s1_e (hp.get (j := 0) rfl) rfl rfl ((ints_length _ _).trans lx2) (fun m v hm => by rw [Nat.zero_add]; exact hm) ?_
    obtain ⟨r9, qr9, h⟩ := bd_e h
    refine k_call [.agg (ints .u8 x2).toArray] rfl (by kernel_rfl) (args1 rfl) (point_Base_ok k x2 lx2 _ (hp.toR (fun _ h => by cases h)) qr9) ?_
    rintro _ w' ⟨_, rfl, rfl, lr90, hpc⟩
    refine ⟨_, rfl, .inr (.of_below hpc.chg.to_below), ?_⟩; have hp := hp.below hpc.chg.to_below; clear hpc
    obtain ⟨r10, qr10, h⟩ := bd_e h
    refine k_call [] rfl (by kernel_rfl) (args0 ) (point_Zero_ok   _ (hp.toR (fun _ h => by cases h)) qr10) ?_
    rintro _ w' ⟨_, rfl, rfl, lr100, hpc⟩
    refine ⟨_, rfl, .inr (.of_below hpc.chg.to_below), ?_⟩; have hp := hp.below hpc.chg.to_below; clear hpc
    refine k_eqI (k := .u8) (l := r9) (l' := r10) rfl Try.underlying22 Try.underlying5 (by kernel_rfl) (by kernel_rfl) rfl rfl lr90 lr100 ?_
    refine k_pick (b := true) (v := .bool (r9 == r10)) rfl rfl rfl rfl rfl ?_
    rcases Bool.eq_false_or_eq_true (r9 == r10) with hb | hb
    · replace h := br_t hb h
      refine k_move (v := .bool true) rfl (Eq.trans (b := .bool (r9 == r10)) rfl (congrArg Value.bool hb)) ?_
      refine k_move (v := .int .i64 x7) rfl s4_e ?_
      refine k_bin (X := .int .i64 x7) (Y := .int .i64 0) rfl rfl rfl rfl ?_
      refine k_pick (b := true) (v := .bool (x7 == 0)) rfl rfl rfl rfl rfl ?_
      rcases Bool.eq_false_or_eq_true (x7 == 0) with hb | hb
      · replace h := br_t hb h
        refine k_move (v := .bool true) rfl (Eq.trans (b := .bool (x7 == 0)) rfl (congrArg Value.bool hb)) ?_
        refine k_loadA (n := 32) (xs := ints .u8 (x2.set 0 (IntKind.u8.wrap ((x2.getD 0 0) - 1)))) 0 rfl (by kernel_rfl) (by kernel_rfl) s2_e (hp.get (j := 1) rfl) rfl rfl ((ints_length _ _).trans (List.length_set.trans lx2)) (fun m v hm => by rw [Nat.zero_add]; exact hm) ?_
        refine k_loadA (n := 32) (xs := ints .u8 r5.1) 0 rfl (by kernel_rfl) (by kernel_rfl) s3_e (hp.get (j := 2) rfl) rfl rfl ((ints_length _ _).trans lr50) (fun m v hm => by rw [Nat.zero_add]; exact hm) ?_
        obtain ⟨r11, qr11, h⟩ := bd_e h
        refine k_call [.agg (ints .u8 (x2.set 0 (IntKind.u8.wrap ((x2.getD 0 0) - 1)))).toArray] rfl (by kernel_rfl) (args1 rfl) (point_Base_ok k (x2.set 0 (IntKind.u8.wrap ((x2.getD 0 0) - 1))) (List.length_set.trans lx2) _ (hp.toR (fun _ h => by cases h)) qr11) ?_
        rintro _ w' ⟨_, rfl, rfl, lr110, hpc⟩
        refine ⟨_, rfl, .inr (.of_below hpc.chg.to_below), ?_⟩; have hp := hp.below hpc.chg.to_below; clear hpc
        refine k_eqI (k := .u8) (l := r11) (l' := r5.1) rfl Try.underlying22 Try.underlying5 (by kernel_rfl) (by kernel_rfl) rfl rfl lr110 lr50 ?_
        refine k_pick (b := true) (v := .bool (r11 == r5.1)) rfl rfl rfl rfl rfl ?_
        rcases Bool.eq_false_or_eq_true (r11 == r5.1) with hb | hb
        · replace h := br_t hb h
          refine k_move (v := .bool true) rfl (Eq.trans (b := .bool (r11 == r5.1)) rfl (congrArg Value.bool hb)) ?_
          refine k_build (v := .agg (ints .u8 ((List.replicate 32 (0 : Int)).set 0 1)).toArray) rfl (fun _ => by kernel_rfl) ?_
          obtain ⟨r12, qr12, h⟩ := bd_e h
          refine k_call [.agg (ints .u8 ((List.replicate 32 (0 : Int)).set 0 1)).toArray] rfl (by kernel_rfl) (args1 rfl) (point_Base_ok k ((List.replicate 32 (0 : Int)).set 0 1) (List.length_set.trans List.length_replicate) _ (hp.toR (fun _ h => by cases h)) qr12) ?_
          rintro _ w' ⟨_, rfl, rfl, lr120, hpc⟩
          refine ⟨_, rfl, .inr (.of_below hpc.chg.to_below), ?_⟩; have hp := hp.below hpc.chg.to_below; clear hpc
          obtain ⟨r13, qr13, h⟩ := bd_e h
          refine k_call [] rfl (by kernel_rfl) (args0 ) (point_Generator_ok k   _ (hp.toR (fun _ h => by cases h)) qr13) ?_
          rintro _ w' ⟨_, rfl, rfl, lr130, hpc⟩
          refine ⟨_, rfl, .inr (.of_below hpc.chg.to_below), ?_⟩; have hp := hp.below hpc.chg.to_below; clear hpc
          refine k_eqI (k := .u8) (l := r12) (l' := r13) rfl Try.underlying22 Try.underlying5 (by kernel_rfl) (by kernel_rfl) rfl rfl lr120 lr130 ?_
          refine k_pick (b := true) (v := .bool (r12 == r13)) rfl rfl rfl rfl rfl ?_
          refine k_assign (v := .bool (r12 == r13)) rfl rfl ?_
          refine k_end ?_; intro e229 qe229
          have s0_e229 : e229 0 = .bool (r12 == r13) := congrFun qe229 0
          clear qe229
          exact hQ0 _ _ (r12 == r13)  s0_e229 (hp.drop (L' := [⟨g1, 0, ints .u8 x2⟩, ⟨g3, 0, ints .u8 (x2.set 0 (IntKind.u8.wrap ((x2.getD 0 0) - 1)))⟩, ⟨g6, 0, ints .u8 r5.1⟩]) (List.Sublist.refl _)) (Option.some.inj h).symm
        · replace h := br_f hb h
          refine k_move (v := .bool false) rfl (Eq.trans (b := .bool (r11 == r5.1)) rfl (congrArg Value.bool hb)) ?_
          refine k_skip rfl ?_
          refine k_skip_ef rfl ?_
          refine k_skip_ef rfl ?_
          refine k_skip rfl ?_
          refine k_pick (b := false) (v := .bool false) rfl rfl rfl rfl rfl ?_
          refine k_assign (v := .bool false) rfl rfl ?_
          refine k_end ?_; intro e230 qe230
          have s0_e230 : e230 0 = .bool false := congrFun qe230 0
          clear qe230
          exact hQ0 _ _ false  s0_e230 (hp.drop (L' := [⟨g1, 0, ints .u8 x2⟩, ⟨g3, 0, ints .u8 (x2.set 0 (IntKind.u8.wrap ((x2.getD 0 0) - 1)))⟩, ⟨g6, 0, ints .u8 r5.1⟩]) (List.Sublist.refl _)) (Option.some.inj h).symm
      · replace h := br_f hb h
        refine k_move (v := .bool false) rfl (Eq.trans (b := .bool (x7 == 0)) rfl (congrArg Value.bool hb)) ?_
        refine k_skip_tk rfl ?_
        refine k_skip_tk rfl ?_
        refine k_skip_ef rfl ?_
        refine k_skip rfl ?_
        refine k_pick (b := false) (v := .bool false) rfl rfl rfl rfl rfl ?_
        refine k_move (v := .bool false) rfl rfl ?_
        refine k_skip rfl ?_
        refine k_skip_ef rfl ?_
        refine k_skip_ef rfl ?_
        refine k_skip rfl ?_
        refine k_pick (b := false) (v := .bool false) rfl rfl rfl rfl rfl ?_
        refine k_assign (v := .bool false) rfl rfl ?_
        refine k_end ?_; intro e231 qe231
        have s0_e231 : e231 0 = .bool false := congrFun qe231 0
        clear qe231
        exact hQ0 _ _ false  s0_e231 (hp.drop (L' := [⟨g1, 0, ints .u8 x2⟩, ⟨g3, 0, ints .u8 (x2.set 0 (IntKind.u8.wrap ((x2.getD 0 0) - 1)))⟩, ⟨g6, 0, ints .u8 r5.1⟩]) (List.Sublist.refl _)) (Option.some.inj h).symm
    · replace h := br_f hb h
      refine k_move (v := .bool false) rfl (Eq.trans (b := .bool (r9 == r10)) rfl (congrArg Value.bool hb)) ?_
      refine k_skip rfl ?_
      refine k_skip rfl ?_
      refine k_pick (b := false) (v := .bool false) rfl rfl rfl rfl rfl ?_
      refine k_move (v := .bool false) rfl rfl ?_
      refine k_skip_tk rfl ?_
      refine k_skip_tk rfl ?_
      refine k_skip_ef rfl ?_
      refine k_skip rfl ?_
      refine k_pick (b := false) (v := .bool false) rfl rfl rfl rfl rfl ?_
      refine k_move (v := .bool false) rfl rfl ?_
      refine k_skip rfl ?_
      refine k_skip_ef rfl ?_
      refine k_skip_ef rfl ?_
      refine k_skip rfl ?_
      refine k_pick (b := false) (v := .bool false) rfl rfl rfl rfl rfl ?_
      refine k_assign (v := .bool false) rfl rfl ?_
      refine k_end ?_; intro e232 qe232
      have s0_e232 : e232 0 = .bool false := congrFun qe232 0
      clear qe232
      exact hQ0 _ _ false  s0_e232 (hp.drop (L' := [⟨g1, 0, ints .u8 x2⟩, ⟨g3, 0, ints .u8 (x2.set 0 (IntKind.u8.wrap ((x2.getD 0 0) - 1)))⟩, ⟨g6, 0, ints .u8 r5.1⟩]) (List.Sublist.refl _)) (Option.some.inj h).symm
  · replace h := br_f hb h
    refine k_move (v := .bool false) rfl (Eq.trans (b := .bool r8) rfl (congrArg Value.bool hb)) ?_
    refine k_skip_tk rfl ?_
    refine k_skip_ef rfl ?_
    refine k_skip_ef rfl ?_
    refine k_skip rfl ?_
    refine k_pick (b := false) (v := .bool false) rfl rfl rfl rfl rfl ?_
    refine k_move (v := .bool false) rfl rfl ?_
    refine k_skip rfl ?_
    refine k_skip rfl ?_
    refine k_pick (b := false) (v := .bool false) rfl rfl rfl rfl rfl ?_
    refine k_move (v := .bool false) rfl rfl ?_
    refine k_skip_tk rfl ?_
    refine k_skip_tk rfl ?_
    refine k_skip_ef rfl ?_
    refine k_skip rfl ?_
    refine k_pick (b := false) (v := .bool false) rfl rfl rfl rfl rfl ?_
    refine k_move (v := .bool false) rfl rfl ?_
    refine k_skip rfl ?_
    refine k_skip_ef rfl ?_
    refine k_skip_ef rfl ?_
    refine k_skip rfl ?_
    refine k_pick (b := false) (v := .bool false) rfl rfl rfl rfl rfl ?_
    refine k_assign (v := .bool false) rfl rfl ?_
    refine k_end ?_; intro e233 qe233
    have s0_e233 : e233 0 = .bool false := congrFun qe233 0
    clear qe233
    exact hQ0 _ _ false  s0_e233 (hp.drop (L' := [⟨g1, 0, ints .u8 x2⟩, ⟨g3, 0, ints .u8 (x2.set 0 (IntKind.u8.wrap ((x2.getD 0 0) - 1)))⟩, ⟨g6, 0, ints .u8 r5.1⟩]) (List.Sublist.refl _)) (Option.some.inj h).symm
theorem postilionlaw06_PointOrder_ok (k : Nat)  (w0 : World) (hp : Hp w0 [] w0 [] []) {r : Bool} (h : postilionlaw06_PointOrder.f k  = some r) :
    Calls Try.prog 3 [].toArray w0 fun x w' => ∃ v, x = .returned v ∧ v = .bool r ∧ Hp w0 [] w' [] [] := by
  refine calls_inP Try.func3 rfl (Nat.le_of_ble_eq_true (by kernel_rfl)) (by kernel_rfl) ?_
  intro e0 qe0
  clear qe0
  unfold postilionlaw06_PointOrder.f at h
  refine wseqP (p0 := [0]) (p1 := [1]) rfl rfl rfl ?_
  refine wregionT postilionlaw06_PointOrder.o1 (.tp 0 (.done)) [] rfl rfl (by kernel_rfl) (by kernel_rfl) ?_
  refine k_assign (v := .bool false) rfl rfl ?_
  refine k_end ?_; intro e224 qe224
  clear qe224
  refine wseqP (p0 := [1, 0]) (p1 := [1, 1]) rfl rfl rfl ?_
  refine wregionT postilionlaw06_PointOrder.o2 (.tp 0 (.ef 1 (.ef 2 (.done)))) [2] rfl rfl (by kernel_rfl) (by kernel_rfl) ?_
  refine k_build (v := .agg (ints .u8 [237, 211, 245, 92, 26, 99, 18, 88, 214, 156, 247, 162, 222, 249, 222, 20, 0, 0, 0, 0, 0, 0, 0, 0, 0, 0, 0, 0, 0, 0, 0, 16]).toArray) rfl (fun _ => by kernel_rfl) ?_
  refine k_alloc (ints .u8 (List.replicate 32 (0 : Int))) rfl (by kernel_rfl) hp ?_
  intro g1 w hbg1 hp
  refine k_storeA (v := .agg (ints .u8 [237, 211, 245, 92, 26, 99, 18, 88, 214, 156, 247, 162, 222, 249, 222, 20, 0, 0, 0, 0, 0, 0, 0, 0, 0, 0, 0, 0, 0, 0, 0, 16]).toArray) 0 0 (r := ⟨g1, 0, ints .u8 (List.replicate 32 (0 : Int))⟩) (ints .u8 [237, 211, 245, 92, 26, 99, 18, 88, 214, 156, 247, 162, 222, 249, 222, 20, 0, 0, 0, 0, 0, 0, 0, 0, 0, 0, 0, 0, 0, 0, 0, 16]) (ints .u8 [237, 211, 245, 92, 26, 99, 18, 88, 214, 156, 247, 162, 222, 249, 222, 20, 0, 0, 0, 0, 0, 0, 0, 0, 0, 0, 0, 0, 0, 0, 0, 16]) rfl (n := 32) (by kernel_rfl) rfl rfl rfl ((ints_length _ _).trans (rfl : List.length ([237, 211, 245, 92, 26, 99, 18, 88, 214, 156, 247, 162, 222, 249, 222, 20, 0, 0, 0, 0, 0, 0, 0, 0, 0, 0, 0, 0, 0, 0, 0, 16] : List Int) = 32)) (ints_one _ _) hp rfl rfl rfl (Nat.le_of_eq ((Nat.zero_add _).trans ((ints_length _ _).trans List.length_replicate).symm)) (setMany_all _ _ (((ints_length _ _).trans (rfl : List.length ([237, 211, 245, 92, 26, 99, 18, 88, 214, 156, 247, 162, 222, 249, 222, 20, 0, 0, 0, 0, 0, 0, 0, 0, 0, 0, 0, 0, 0, 0, 0, 16] : List Int) = 32)).trans ((ints_length _ _).trans List.length_replicate).symm)) (by decide) ?_; intro w hp
  refine k_end ?_; intro e225 qe225
  have s1_e225 : e225 1 = .pointer (some ⟨g1, 0, none⟩) := congrFun qe225 1
  clear qe225
  obtain ⟨x2, qx2, h⟩ := lt_e h
  have lx2 : x2.length = 32 := (congrArg List.length qx2).trans (rfl : List.length ([237, 211, 245, 92, 26, 99, 18, 88, 214, 156, 247, 162, 222, 249, 222, 20, 0, 0, 0, 0, 0, 0, 0, 0, 0, 0, 0, 0, 0, 0, 0, 16] : List Int) = 32)
  have hp : Hp w0 [] w [⟨g1, 0, ints .u8 x2⟩] [] := by rw [qx2]; exact hp
  refine wseqP (p0 := [1, 1, 0]) (p1 := [1, 1, 1]) rfl rfl rfl ?_
  refine wregionT postilionlaw06_PointOrder.o3 (.tk 0 (.ef 1 (.ef 2 (.done)))) [2] rfl rfl (by kernel_rfl) (by kernel_rfl) ?_
  refine k_loadA (n := 32) (xs := ints .u8 x2) 0 rfl (by kernel_rfl) (by kernel_rfl) s1_e225 (hp.get (j := 0) rfl) rfl rfl ((ints_length _ _).trans lx2) (fun m v hm => by rw [Nat.zero_add]; exact hm) ?_
  refine k_alloc (ints .u8 (List.replicate 32 (0 : Int))) rfl (by kernel_rfl) hp ?_
  intro g3 w hbg3 hp
  refine k_storeA (v := .agg (ints .u8 x2).toArray) 1 0 (r := ⟨g3, 0, ints .u8 (List.replicate 32 (0 : Int))⟩) (ints .u8 x2) (ints .u8 x2) rfl (n := 32) (by kernel_rfl) rfl rfl rfl ((ints_length _ _).trans lx2) (ints_one _ _) hp rfl rfl rfl (Nat.le_of_eq ((Nat.zero_add _).trans ((ints_length _ _).trans List.length_replicate).symm)) (setMany_all _ _ (((ints_length _ _).trans lx2).trans ((ints_length _ _).trans List.length_replicate).symm)) (by decide) ?_; intro w hp
  refine k_end ?_; intro e226 qe226
  have s1_e226 : e226 1 = .pointer (some ⟨g1, 0, none⟩) := (congrFun qe226 1).trans s1_e225
  have s2_e226 : e226 2 = .pointer (some ⟨g3, 0, none⟩) := congrFun qe226 2
  clear qe226
  refine wseqP (p0 := [1, 1, 1, 0]) (p1 := [1, 1, 1, 1]) rfl rfl rfl ?_
  refine wregionT postilionlaw06_PointOrder.o4 (.tp 0 (.tk 1 (.tp 2 (.tp 3 (.ef 4 (.done)))))) [4] rfl rfl (by kernel_rfl) (by kernel_rfl) ?_
  refine k_indexA (n := 32) (s := 1) (j := 0) rfl Try.underlying22 (by kernel_rfl) s2_e226 rfl (by decide) ?_
  refine k_load (j := 0) (v := .int .u8 (x2.getD 0 0)) rfl (by kernel_rfl) rfl (hp.get (j := 1) rfl) rfl rfl (ints_get (Nat.lt_of_lt_of_eq (m := 32) (by decide) (lx2).symm)) ?_
  refine k_bin (X := .int .u8 (x2.getD 0 0)) (Y := .int .u8 1) rfl rfl rfl rfl ?_
  refine k_indexA (n := 32) (s := 1) (j := 0) rfl Try.underlying22 (by kernel_rfl) s2_e226 rfl (by decide) ?_
  refine k_store (v := .int .u8 (IntKind.u8.wrap ((x2.getD 0 0) - 1))) 1 0 (r := ⟨g3, 0, ints .u8 x2⟩) rfl (by kernel_rfl) rfl rfl rfl hp rfl rfl rfl (Nat.lt_of_lt_of_eq (Nat.lt_of_lt_of_eq (m := 32) (by decide) (lx2).symm) (ints_length _ _).symm) (by decide) ?_; intro w hp; rw [ints_set] at hp
  refine k_end ?_; intro e227 qe227
  have s1_e227 : e227 1 = .pointer (some ⟨g1, 0, none⟩) := (congrFun qe227 1).trans s1_e226
  have s2_e227 : e227 2 = .pointer (some ⟨g3, 0, none⟩) := (congrFun qe227 2).trans s2_e226
  clear qe227
  refine wseqP (p0 := [1, 1, 1, 1, 0]) (p1 := [1, 1, 1, 1, 1]) rfl rfl rfl ?_
  refine wregionT postilionlaw06_PointOrder.o5 (.ef 0 (.ef 1 (.tp 2 (.tp 3 (.tp 4 (.ef 5 (.ef 6 (.tp 7 (.done))))))))) [6] rfl rfl (by kernel_rfl) (by kernel_rfl) ?_
  obtain ⟨r4, qr4, h⟩ := bd_e h
  refine k_call [] rfl (by kernel_rfl) (args0 ) (point_Generator_ok k   _ (hp.toR (fun _ h => by cases h)) qr4) ?_
  rintro _ w' ⟨_, rfl, rfl, lr40, hpc⟩
  refine ⟨_, rfl, .inr (.of_below hpc.chg.to_below), ?_⟩; have hp := hp.below hpc.chg.to_below; clear hpc
  obtain ⟨r5, qr5, h⟩ := bd_e h
  refine k_call [.agg (ints .u8 r4).toArray] rfl (by kernel_rfl) (args1 rfl) (point_Neg_ok k r4 lr40 _ (hp.toR (fun _ h => by cases h)) qr5) ?_
  rintro _ w' ⟨_, rfl, rfl, lr50, hpc⟩
  refine ⟨_, rfl, .inr (.of_below hpc.chg.to_below), ?_⟩; have hp := hp.below hpc.chg.to_below; clear hpc
  refine k_move (v := .tuple #[.agg (ints .u8 r5.1).toArray, .int .i64 r5.2]) rfl rfl ?_
  refine k_extract (v := .agg (ints .u8 r5.1).toArray) rfl rfl rfl ?_
  refine k_extract (v := .int .i64 r5.2) rfl rfl rfl ?_
  refine k_alloc (ints .u8 (List.replicate 32 (0 : Int))) rfl (by kernel_rfl) hp ?_
  intro g6 w hbg6 hp
  refine k_storeA (v := .agg (ints .u8 r5.1).toArray) 2 0 (r := ⟨g6, 0, ints .u8 (List.replicate 32 (0 : Int))⟩) (ints .u8 r5.1) (ints .u8 r5.1) rfl (n := 32) (by kernel_rfl) rfl rfl rfl ((ints_length _ _).trans lr50) (ints_one _ _) hp rfl rfl rfl (Nat.le_of_eq ((Nat.zero_add _).trans ((ints_length _ _).trans List.length_replicate).symm)) (setMany_all _ _ (((ints_length _ _).trans lr50).trans ((ints_length _ _).trans List.length_replicate).symm)) (by decide) ?_; intro w hp
  refine k_assign (v := .int .i64 r5.2) rfl rfl ?_
  refine k_end ?_; intro e228 qe228
  have s1_e228 : e228 1 = .pointer (some ⟨g1, 0, none⟩) := (congrFun qe228 1).trans s1_e227
  have s2_e228 : e228 2 = .pointer (some ⟨g3, 0, none⟩) := (congrFun qe228 2).trans s2_e227
  have s3_e228 : e228 3 = .pointer (some ⟨g6, 0, none⟩) := congrFun qe228 3
  obtain ⟨x7, qx7, h⟩ := lt_e h
  have s4_e228 : e228 4 = .int .i64 x7 := (congrFun qe228 4).trans (congrArg (Value.int .i64) qx7.symm)
  clear qe228
  refine wseqP (p0 := [1, 1, 1, 1, 1, 0]) (p1 := [1, 1, 1, 1, 1, 1]) rfl rfl rfl ?_
  obtain ⟨r14, qr14, h⟩ := bd_e h
  refine postilionlaw06_PointOrder.p1_ok k g1 g3 g6 x7 x2 r5 lx2 lr50 ?hq0 e228 _ s1_e228 s2_e228 s3_e228 s4_e228 hp qr14
  case hq0 =>
    intro e234 w m15  s0_e234 hp qq
    rw [qq] at h; clear qq
    refine wret rfl ?_
    have hr : r = m15 := (Option.some.inj h).symm
    show RetP _ _ _ _ _
    rw [hr]
    exact ret_i [.bool m15] (res_tmp s0_e234 res_nil) ⟨rfl, hp.none⟩
/-! 14 postilion/point.Add -/
noncomputable def point_Add.o1 : Array Oper := opsC (at_ (fbody Try.f14) [0])
noncomputable def point_Add.o2 : Array Oper := opsC (at_ (fbody Try.f14) [1, 0])
noncomputable def point_Add.o3 : Array Oper := opsC (at_ (fbody Try.f14) [1, 1, 0])
noncomputable def point_Add.o4 : Array Oper := opsC (at_ (fbody Try.f14) [1, 1, 1, 0, 0])
noncomputable def point_Add.o5 : Array Oper := opsC (at_ (fbody Try.f14) [1, 1, 1, 0, 1, 0, 0])
noncomputable def point_Add.o6 : Array Oper := opsC (at_ (fbody Try.f14) [1, 1, 1, 1, 0])
theorem point_Add.p1_ok {w0 : World} {Ws : List Wr} {Q : Exit → Env → World → Prop} (g1 g2 g3 g5 g7 : Nat) (r4 : List Int × Bool) (r6 : List Int × Bool) (a0 : List Int) (a1 : List Int) (la0 : a0.length = 32) (la1 : a1.length = 32) (lr40 : r4.1.length = 20) (lr60 : r6.1.length = 20) {r : Bool} (hQ0 : ∀ (e' : Env) (w' : World) (z0 : Bool), e' 4 = .pointer (some ⟨g3, 0, none⟩) → e' 6 = .pointer (some ⟨g5, 0, none⟩) → e' 8 = .pointer (some ⟨g7, 0, none⟩) → e' 25 = .bool z0 → Hp w0 Ws w' [⟨g1, 0, ints .u8 a0⟩, ⟨g2, 0, ints .u8 a1⟩, ⟨g3, 0, ints .u8 (List.replicate 32 (0 : Int))⟩, ⟨g5, 0, ints .u64 r4.1⟩, ⟨g7, 0, ints .u64 r6.1⟩] [] → r = (z0) → Q .normal e' w') (e : Env) (w : World) (s4_e : e 4 = .pointer (some ⟨g3, 0, none⟩)) (s6_e : e 6 = .pointer (some ⟨g5, 0, none⟩)) (s7_e : e 7 = .bool r4.2) (s8_e : e 8 = .pointer (some ⟨g7, 0, none⟩)) (s9_e : e 9 = .bool r6.2) (hp : Hp w0 Ws w [⟨g1, 0, ints .u8 a0⟩, ⟨g2, 0, ints .u8 a1⟩, ⟨g3, 0, ints .u8 (List.replicate 32 (0 : Int))⟩, ⟨g5, 0, ints .u64 r4.1⟩, ⟨g7, 0, ints .u64 r6.1⟩] []) (h : point_Add.p1 r4 r6 = some r) : Wp Try.prog Try.f14.ntmps (at_ (fbody Try.f14) [1, 1, 1, 0, 0]) Q e w := by
  unfold point_Add.p1 at h
  refine wregionT point_Add.o4 (.tp 0 (.tp 1 (.tp 2 (.tp 3 (.tp 4 (.tp 5 (.done))))))) [] rfl rfl (by kernel_rfl) (by kernel_rfl) ?_
  refine k_move (v := .bool r4.2) rfl s7_e ?_
  refine k_not (b := r4.2) rfl rfl ?_
  rcases Bool.eq_false_or_eq_true (!r4.2) with hb | hb
  · replace h := br_t hb h
    refine k_move (v := .bool true) rfl (Eq.trans (b := .bool (!r4.2)) rfl (congrArg Value.bool hb)) ?_
    refine k_skip rfl ?_
    refine k_skip rfl ?_
    refine k_pick (b := true) (v := .bool true) rfl rfl rfl rfl rfl ?_
    refine k_end ?_; intro e238 qe238
    have s4_e238 : e238 4 = .pointer (some ⟨g3, 0, none⟩) := (congrFun qe238 4).trans s4_e
    have s6_e238 : e238 6 = .pointer (some ⟨g5, 0, none⟩) := (congrFun qe238 6).trans s6_e
    have s8_e238 : e238 8 = .pointer (some ⟨g7, 0, none⟩) := (congrFun qe238 8).trans s8_e
    have s25_e238 : e238 25 = .bool true := congrFun qe238 25
    clear qe238
    exact hQ0 _ _ true  s4_e238 s6_e238 s8_e238 s25_e238 (hp.drop (L' := [⟨g1, 0, ints .u8 a0⟩, ⟨g2, 0, ints .u8 a1⟩, ⟨g3, 0, ints .u8 (List.replicate 32 (0 : Int))⟩, ⟨g5, 0, ints .u64 r4.1⟩, ⟨g7, 0, ints .u64 r6.1⟩]) (List.Sublist.refl _)) (Option.some.inj h).symm
  · replace h := br_f hb h
    refine k_move (v := .bool false) rfl (Eq.trans (b := .bool (!r4.2)) rfl (congrArg Value.bool hb)) ?_
    refine k_move (v := .bool r6.2) rfl s9_e ?_
    refine k_not (b := r6.2) rfl rfl ?_
    refine k_pick (b := false) (v := .bool (!r6.2)) rfl rfl rfl rfl rfl ?_
    refine k_end ?_; intro e239 qe239
    have s4_e239 : e239 4 = .pointer (some ⟨g3, 0, none⟩) := (congrFun qe239 4).trans s4_e
    have s6_e239 : e239 6 = .pointer (some ⟨g5, 0, none⟩) := (congrFun qe239 6).trans s6_e
    have s8_e239 : e239 8 = .pointer (some ⟨g7, 0, none⟩) := (congrFun qe239 8).trans s8_e
    have s25_e239 : e239 25 = .bool (!r6.2) := congrFun qe239 25
    clear qe239
    exact hQ0 _ _ (!r6.2)  s4_e239 s6_e239 s8_e239 s25_e239 (hp.drop (L' := [⟨g1, 0, ints .u8 a0⟩, ⟨g2, 0, ints .u8 a1⟩, ⟨g3, 0, ints .u8 (List.replicate 32 (0 : Int))⟩, ⟨g5, 0, ints .u64 r4.1⟩, ⟨g7, 0, ints .u64 r6.1⟩]) (List.Sublist.refl _)) (Option.some.inj h).symm
theorem point_Add_ok (k : Nat) (a0 : List Int) (a1 : List Int) (la0 : a0.length = 32) (la1 : a1.length = 32) (w0 : World) (hp : Hp w0 [] w0 [] []) {r : List Int × Int} (h : point_Add.f k a0 a1 = some r) :
    Calls Try.prog 14 [.agg (ints .u8 a0).toArray, .agg (ints .u8 a1).toArray].toArray w0 fun x w' => ∃ v, x = .returned v ∧ v = .tuple #[.agg (ints .u8 r.1).toArray, .int .i64 r.2] ∧ r.1.length = 32 ∧ Hp w0 [] w' [] [] := by
  refine calls_inP Try.func14 rfl (Nat.le_of_ble_eq_true (by kernel_rfl)) (by kernel_rfl) ?_
  intro e0 qe0
  have s0_e0 : e0 0 = .agg (ints .u8 a0).toArray := congrFun qe0 0
  have s1_e0 : e0 1 = .agg (ints .u8 a1).toArray := congrFun qe0 1
  clear qe0
  unfold point_Add.f at h
  refine wseqP (p0 := [0]) (p1 := [1]) rfl rfl rfl ?_
  refine wregionT point_Add.o1 (.ef 0 (.ef 1 (.ef 2 (.tp 3 (.done))))) [] rfl rfl (by kernel_rfl) (by kernel_rfl) ?_
  refine k_box (v := .agg (ints .u8 a0).toArray) (ints .u8 a0) rfl s0_e0 rfl hp ?_
  intro g1 w hbg1 hp
  refine k_box (v := .agg (ints .u8 a1).toArray) (ints .u8 a1) rfl s1_e0 rfl hp ?_
  intro g2 w hbg2 hp
  refine k_alloc (ints .u8 (List.replicate 32 (0 : Int))) rfl (by kernel_rfl) hp ?_
  intro g3 w hbg3 hp
  refine k_assign (v := .int .i64 0) rfl rfl ?_
  refine k_end ?_; intro e235 qe235
  have s2_e235 : e235 2 = .pointer (some ⟨g1, 0, none⟩) := congrFun qe235 2
  have s3_e235 : e235 3 = .pointer (some ⟨g2, 0, none⟩) := congrFun qe235 3
  have s4_e235 : e235 4 = .pointer (some ⟨g3, 0, none⟩) := congrFun qe235 4
  clear qe235
  refine wseqP (p0 := [1, 0]) (p1 := [1, 1]) rfl rfl rfl ?_
  refine wregionT point_Add.o2 (.tk 0 (.ef 1 (.tp 2 (.tp 3 (.tp 4 (.ef 5 (.ef 6 (.tp 7 (.done))))))))) [6] rfl rfl (by kernel_rfl) (by kernel_rfl) ?_
  refine k_loadA (n := 32) (xs := ints .u8 a0) 0 rfl (by kernel_rfl) (by kernel_rfl) s2_e235 (hp.get (j := 0) rfl) rfl rfl ((ints_length _ _).trans la0) (fun m v hm => by rw [Nat.zero_add]; exact hm) ?_
  obtain ⟨r4, qr4, h⟩ := bd_e h
  refine k_call [.agg (ints .u8 a0).toArray] rfl (by kernel_rfl) (args1 rfl) (point_Of_ok k a0 la0 _ (hp.toR (fun _ h => by cases h)) qr4) ?_
  rintro _ w' ⟨_, rfl, rfl, lr40, hpc⟩
  refine ⟨_, rfl, .inr (.of_below hpc.chg.to_below), ?_⟩; have hp := hp.below hpc.chg.to_below; clear hpc
  refine k_move (v := .tuple #[.agg (ints .u64 r4.1).toArray, .bool r4.2]) rfl rfl ?_
  refine k_extract (v := .agg (ints .u64 r4.1).toArray) rfl rfl rfl ?_
  refine k_extract (v := .bool r4.2) rfl rfl rfl ?_
  refine k_alloc (ints .u64 (List.replicate 20 (0 : Int))) rfl (by kernel_rfl) hp ?_
  intro g5 w hbg5 hp
  refine k_storeA (v := .agg (ints .u64 r4.1).toArray) 3 0 (r := ⟨g5, 0, ints .u64 (List.replicate 20 (0 : Int))⟩) (ints .u64 r4.1) (ints .u64 r4.1) rfl (n := 20) (by kernel_rfl) rfl rfl rfl ((ints_length _ _).trans lr40) (ints_one _ _) hp rfl rfl rfl (Nat.le_of_eq ((Nat.zero_add _).trans ((ints_length _ _).trans List.length_replicate).symm)) (setMany_all _ _ (((ints_length _ _).trans lr40).trans ((ints_length _ _).trans List.length_replicate).symm)) (by decide) ?_; intro w hp
  refine k_assign (v := .bool r4.2) rfl rfl ?_
  refine k_end ?_; intro e236 qe236
  have s3_e236 : e236 3 = .pointer (some ⟨g2, 0, none⟩) := (congrFun qe236 3).trans s3_e235
  have s4_e236 : e236 4 = .pointer (some ⟨g3, 0, none⟩) := (congrFun qe236 4).trans s4_e235
  have s6_e236 : e236 6 = .pointer (some ⟨g5, 0, none⟩) := congrFun qe236 6
  have s7_e236 : e236 7 = .bool r4.2 := congrFun qe236 7
  clear qe236
  refine wseqP (p0 := [1, 1, 0]) (p1 := [1, 1, 1]) rfl rfl rfl ?_
  refine wregionT point_Add.o3 (.tk 0 (.ef 1 (.tp 2 (.tp 3 (.tp 4 (.ef 5 (.ef 6 (.tp 7 (.done))))))))) [6] rfl rfl (by kernel_rfl) (by kernel_rfl) ?_
  refine k_loadA (n := 32) (xs := ints .u8 a1) 0 rfl (by kernel_rfl) (by kernel_rfl) s3_e236 (hp.get (j := 1) rfl) rfl rfl ((ints_length _ _).trans la1) (fun m v hm => by rw [Nat.zero_add]; exact hm) ?_
  obtain ⟨r6, qr6, h⟩ := bd_e h
  refine k_call [.agg (ints .u8 a1).toArray] rfl (by kernel_rfl) (args1 rfl) (point_Of_ok k a1 la1 _ (hp.toR (fun _ h => by cases h)) qr6) ?_
  rintro _ w' ⟨_, rfl, rfl, lr60, hpc⟩
  refine ⟨_, rfl, .inr (.of_below hpc.chg.to_below), ?_⟩; have hp := hp.below hpc.chg.to_below; clear hpc
  refine k_move (v := .tuple #[.agg (ints .u64 r6.1).toArray, .bool r6.2]) rfl rfl ?_
  refine k_extract (v := .agg (ints .u64 r6.1).toArray) rfl rfl rfl ?_
  refine k_extract (v := .bool r6.2) rfl rfl rfl ?_
  refine k_alloc (ints .u64 (List.replicate 20 (0 : Int))) rfl (by kernel_rfl) hp ?_
  intro g7 w hbg7 hp
  refine k_storeA (v := .agg (ints .u64 r6.1).toArray) 4 0 (r := ⟨g7, 0, ints .u64 (List.replicate 20 (0 : Int))⟩) (ints .u64 r6.1) (ints .u64 r6.1) rfl (n := 20) (by kernel_rfl) rfl rfl rfl ((ints_length _ _).trans lr60) (ints_one _ _) hp rfl rfl rfl (Nat.le_of_eq ((Nat.zero_add _).trans ((ints_length _ _).trans List.length_replicate).symm)) (setMany_all _ _ (((ints_length _ _).trans lr60).trans ((ints_length _ _).trans List.length_replicate).symm)) (by decide) ?_; intro w hp
  refine k_assign (v := .bool r6.2) rfl rfl ?_
  refine k_end ?_; intro e237 qe237
  have s4_e237 : e237 4 = .pointer (some ⟨g3, 0, none⟩) := (congrFun qe237 4).trans s4_e236
  have s6_e237 : e237 6 = .pointer (some ⟨g5, 0, none⟩) := (congrFun qe237 6).trans s6_e236
  have s7_e237 : e237 7 = .bool r4.2 := (congrFun qe237 7).trans s7_e236
  have s8_e237 : e237 8 = .pointer (some ⟨g7, 0, none⟩) := congrFun qe237 8
  have s9_e237 : e237 9 = .bool r6.2 := congrFun qe237 9
  clear qe237
  refine wseqP (p0 := [1, 1, 1, 0]) (p1 := [1, 1, 1, 1]) rfl rfl rfl ?_
  refine wseqP (p0 := [1, 1, 1, 0, 0]) (p1 := [1, 1, 1, 0, 1]) rfl rfl rfl ?_
  obtain ⟨r8, qr8, h⟩ := bd_e h
  refine point_Add.p1_ok g1 g2 g3 g5 g7 r4 r6 a0 a1 la0 la1 lr40 lr60 ?hq0 e237 _ s4_e237 s6_e237 s7_e237 s8_e237 s9_e237 hp qr8
  case hq0 =>
    intro e240 w m9  s4_e240 s6_e240 s8_e240 s25_e240 hp qq
    rw [qq] at h; clear qq
    refine wcondP (p0 := [1, 1, 1, 0, 1, 0]) (p1 := [1, 1, 1, 0, 1, 1]) (t := m9) rfl rfl rfl (by decide) s25_e240 (fun hb => ?_) (fun hb => ?_)
    · replace h := br_t hb h
      refine wseqP (p0 := [1, 1, 1, 0, 1, 0, 0]) (p1 := [1, 1, 1, 0, 1, 0, 1]) rfl rfl rfl ?_
      refine wregionT point_Add.o5 (.tp 0 (.ef 1 (.tp 2 (.done)))) [1] rfl rfl (by kernel_rfl) (by kernel_rfl) ?_
      refine k_build (v := .agg (ints .u8 (List.replicate 32 (0 : Int))).toArray) rfl (fun _ => by kernel_rfl) ?_
      refine k_storeA (v := .agg (ints .u8 (List.replicate 32 (0 : Int))).toArray) 2 0 (r := ⟨g3, 0, ints .u8 (List.replicate 32 (0 : Int))⟩) (ints .u8 (List.replicate 32 (0 : Int))) (ints .u8 (List.replicate 32 (0 : Int))) rfl (n := 32) (by kernel_rfl) s4_e240 rfl rfl ((ints_length _ _).trans List.length_replicate) (ints_one _ _) hp rfl rfl rfl (Nat.le_of_eq ((Nat.zero_add _).trans ((ints_length _ _).trans List.length_replicate).symm)) (setMany_all _ _ (((ints_length _ _).trans List.length_replicate).trans ((ints_length _ _).trans List.length_replicate).symm)) (by decide) ?_; intro w hp
      refine k_assign (v := .int .i64 2) rfl rfl ?_
      refine k_end ?_; intro e241 qe241
      have s4_e241 : e241 4 = .pointer (some ⟨g3, 0, none⟩) := (congrFun qe241 4).trans s4_e240
      have s5_e241 : e241 5 = .int .i64 2 := congrFun qe241 5
      clear qe241
      refine wret rfl ?_
      have hr : r = ((List.replicate 32 (0 : Int)), 2) := (Option.some.inj h).symm
      show RetP _ _ _ _ _
      rw [hr]
      exact ret_i [.agg (ints .u8 (List.replicate 32 (0 : Int))).toArray, .int .i64 2] (res_cell s4_e241 (loadVar_agg (by kernel_rfl) (by kernel_rfl) ((ints_length _ _).trans List.length_replicate) (hp.get (j := 2) rfl) rfl rfl rfl) (res_tmp s5_e241 res_nil)) ⟨rfl, List.length_replicate, hp.none⟩
    · replace h := br_f hb h
      refine wskip rfl ?_
      refine wseqP (p0 := [1, 1, 1, 1, 0]) (p1 := [1, 1, 1, 1, 1]) rfl rfl rfl ?_
      refine wregionT point_Add.o6 (.tk 0 (.tk 1 (.ef 2 (.ef 3 (.ef 4 (.tp 5 (.done))))))) [4] rfl rfl (by kernel_rfl) (by kernel_rfl) ?_
      refine k_loadA (n := 20) (xs := ints .u64 r4.1) 0 rfl (by kernel_rfl) (by kernel_rfl) s6_e240 (hp.get (j := 3) rfl) rfl rfl ((ints_length _ _).trans lr40) (fun m v hm => by rw [Nat.zero_add]; exact hm) ?_
      refine k_loadA (n := 20) (xs := ints .u64 r6.1) 0 rfl (by kernel_rfl) (by kernel_rfl) s8_e240 (hp.get (j := 4) rfl) rfl rfl ((ints_length _ _).trans lr60) (fun m v hm => by rw [Nat.zero_add]; exact hm) ?_
      obtain ⟨r10, qr10, h⟩ := bd_e h
      refine k_call [.agg (ints .u64 r4.1).toArray, .agg (ints .u64 r6.1).toArray] rfl (by kernel_rfl) (args2 rfl rfl) (point_Point_Plus_ok k r4.1 r6.1 lr40 lr60 _ (hp.toR (fun _ h => by cases h)) qr10) ?_
      rintro _ w' ⟨_, rfl, rfl, lr100, hpc⟩
      refine ⟨_, rfl, .inr (.of_below hpc.chg.to_below), ?_⟩; have hp := hp.below hpc.chg.to_below; clear hpc
      obtain ⟨r11, qr11, h⟩ := bd_e h
      refine k_call [.agg (ints .u64 r10).toArray] rfl (by kernel_rfl) (args1 rfl) (point_Point_Bytes_ok k r10 lr100 _ (hp.toR (fun _ h => by cases h)) qr11) ?_
      rintro _ w' ⟨_, rfl, rfl, lr110, hpc⟩
      refine ⟨_, rfl, .inr (.of_below hpc.chg.to_below), ?_⟩; have hp := hp.below hpc.chg.to_below; clear hpc
      refine k_storeA (v := .agg (ints .u8 r11).toArray) 2 0 (r := ⟨g3, 0, ints .u8 (List.replicate 32 (0 : Int))⟩) (ints .u8 r11) (ints .u8 r11) rfl (n := 32) (by kernel_rfl) s4_e240 rfl rfl ((ints_length _ _).trans lr110) (ints_one _ _) hp rfl rfl rfl (Nat.le_of_eq ((Nat.zero_add _).trans ((ints_length _ _).trans List.length_replicate).symm)) (setMany_all _ _ (((ints_length _ _).trans lr110).trans ((ints_length _ _).trans List.length_replicate).symm)) (by decide) ?_; intro w hp
      refine k_assign (v := .int .i64 0) rfl rfl ?_
      refine k_end ?_; intro e242 qe242
      have s4_e242 : e242 4 = .pointer (some ⟨g3, 0, none⟩) := (congrFun qe242 4).trans s4_e240
      have s5_e242 : e242 5 = .int .i64 0 := congrFun qe242 5
      clear qe242
      refine wret rfl ?_
      have hr : r = (r11, 0) := (Option.some.inj h).symm
      show RetP _ _ _ _ _
      rw [hr]
      exact ret_i [.agg (ints .u8 r11).toArray, .int .i64 0] (res_cell s4_e242 (loadVar_agg (by kernel_rfl) (by kernel_rfl) ((ints_length _ _).trans lr110) (hp.get (j := 2) rfl) rfl rfl rfl) (res_tmp s5_e242 res_nil)) ⟨rfl, lr110, hp.none⟩
/-! 16 postilion/point.Mul -/
noncomputable def point_Mul.o1 : Array Oper := opsC (at_ (fbody Try.f16) [0])
noncomputable def point_Mul.o2 : Array Oper := opsC (at_ (fbody Try.f16) [1, 0])
noncomputable def point_Mul.o3 : Array Oper := opsC (at_ (fbody Try.f16) [1, 1, 0, 0])
noncomputable def point_Mul.o4 : Array Oper := opsC (at_ (fbody Try.f16) [1, 1, 0, 1, 0, 0])
noncomputable def point_Mul.o5 : Array Oper := opsC (at_ (fbody Try.f16) [1, 1, 1, 0])
theorem point_Mul_ok (k : Nat) (a0 : List Int) (a1 : List Int) (la0 : a0.length = 32) (la1 : a1.length = 32) (w0 : World) (hp : Hp w0 [] w0 [] []) {r : List Int × Int} (h : point_Mul.f k a0 a1 = some r) :
    Calls Try.prog 16 [.agg (ints .u8 a0).toArray, .agg (ints .u8 a1).toArray].toArray w0 fun x w' => ∃ v, x = .returned v ∧ v = .tuple #[.agg (ints .u8 r.1).toArray, .int .i64 r.2] ∧ r.1.length = 32 ∧ Hp w0 [] w' [] [] := by
  refine calls_inP Try.func16 rfl (Nat.le_of_ble_eq_true (by kernel_rfl)) (by kernel_rfl) ?_
  intro e0 qe0
  have s0_e0 : e0 0 = .agg (ints .u8 a0).toArray := congrFun qe0 0
  have s1_e0 : e0 1 = .agg (ints .u8 a1).toArray := congrFun qe0 1
  clear qe0
  unfold point_Mul.f at h
  refine wseqP (p0 := [0]) (p1 := [1]) rfl rfl rfl ?_
  refine wregionT point_Mul.o1 (.ef 0 (.ef 1 (.ef 2 (.tp 3 (.done))))) [] rfl rfl (by kernel_rfl) (by kernel_rfl) ?_
  refine k_box (v := .agg (ints .u8 a0).toArray) (ints .u8 a0) rfl s0_e0 rfl hp ?_
  intro g1 w hbg1 hp
  refine k_box (v := .agg (ints .u8 a1).toArray) (ints .u8 a1) rfl s1_e0 rfl hp ?_
  intro g2 w hbg2 hp
  refine k_alloc (ints .u8 (List.replicate 32 (0 : Int))) rfl (by kernel_rfl) hp ?_
  intro g3 w hbg3 hp
  refine k_assign (v := .int .i64 0) rfl rfl ?_
  refine k_end ?_; intro e243 qe243
  have s2_e243 : e243 2 = .pointer (some ⟨g1, 0, none⟩) := congrFun qe243 2
  have s3_e243 : e243 3 = .pointer (some ⟨g2, 0, none⟩) := congrFun qe243 3
  have s4_e243 : e243 4 = .pointer (some ⟨g3, 0, none⟩) := congrFun qe243 4
  clear qe243
  refine wseqP (p0 := [1, 0]) (p1 := [1, 1]) rfl rfl rfl ?_
  refine wregionT point_Mul.o2 (.tk 0 (.ef 1 (.tp 2 (.tp 3 (.tp 4 (.ef 5 (.ef 6 (.tp 7 (.done))))))))) [6] rfl rfl (by kernel_rfl) (by kernel_rfl) ?_
  refine k_loadA (n := 32) (xs := ints .u8 a1) 0 rfl (by kernel_rfl) (by kernel_rfl) s3_e243 (hp.get (j := 1) rfl) rfl rfl ((ints_length _ _).trans la1) (fun m v hm => by rw [Nat.zero_add]; exact hm) ?_
  obtain ⟨r4, qr4, h⟩ := bd_e h
  refine k_call [.agg (ints .u8 a1).toArray] rfl (by kernel_rfl) (args1 rfl) (point_Of_ok k a1 la1 _ (hp.toR (fun _ h => by cases h)) qr4) ?_
  rintro _ w' ⟨_, rfl, rfl, lr40, hpc⟩
  refine ⟨_, rfl, .inr (.of_below hpc.chg.to_below), ?_⟩; have hp := hp.below hpc.chg.to_below; clear hpc
  refine k_move (v := .tuple #[.agg (ints .u64 r4.1).toArray, .bool r4.2]) rfl rfl ?_
  refine k_extract (v := .agg (ints .u64 r4.1).toArray) rfl rfl rfl ?_
  refine k_extract (v := .bool r4.2) rfl rfl rfl ?_
  refine k_alloc (ints .u64 (List.replicate 20 (0 : Int))) rfl (by kernel_rfl) hp ?_
  intro g5 w hbg5 hp
  refine k_storeA (v := .agg (ints .u64 r4.1).toArray) 3 0 (r := ⟨g5, 0, ints .u64 (List.replicate 20 (0 : Int))⟩) (ints .u64 r4.1) (ints .u64 r4.1) rfl (n := 20) (by kernel_rfl) rfl rfl rfl ((ints_length _ _).trans lr40) (ints_one _ _) hp rfl rfl rfl (Nat.le_of_eq ((Nat.zero_add _).trans ((ints_length _ _).trans List.length_replicate).symm)) (setMany_all _ _ (((ints_length _ _).trans lr40).trans ((ints_length _ _).trans List.length_replicate).symm)) (by decide) ?_; intro w hp
  refine k_assign (v := .bool r4.2) rfl rfl ?_
  refine k_end ?_; intro e244 qe244
  have s2_e244 : e244 2 = .pointer (some ⟨g1, 0, none⟩) := (congrFun qe244 2).trans s2_e243
  have s4_e244 : e244 4 = .pointer (some ⟨g3, 0, none⟩) := (congrFun qe244 4).trans s4_e243
  have s6_e244 : e244 6 = .pointer (some ⟨g5, 0, none⟩) := congrFun qe244 6
  have s7_e244 : e244 7 = .bool r4.2 := congrFun qe244 7
  clear qe244
  refine wseqP (p0 := [1, 1, 0]) (p1 := [1, 1, 1]) rfl rfl rfl ?_
  refine wseqP (p0 := [1, 1, 0, 0]) (p1 := [1, 1, 0, 1]) rfl rfl rfl ?_
  refine wregionT point_Mul.o3 (.tp 0 (.tp 1 (.done))) [] rfl rfl (by kernel_rfl) (by kernel_rfl) ?_
  refine k_move (v := .bool r4.2) rfl s7_e244 ?_
  refine k_not (b := r4.2) rfl rfl ?_
  refine k_end ?_; intro e245 qe245
  have s2_e245 : e245 2 = .pointer (some ⟨g1, 0, none⟩) := (congrFun qe245 2).trans s2_e244
  have s4_e245 : e245 4 = .pointer (some ⟨g3, 0, none⟩) := (congrFun qe245 4).trans s4_e244
  have s6_e245 : e245 6 = .pointer (some ⟨g5, 0, none⟩) := (congrFun qe245 6).trans s6_e244
  have s14_e245 : e245 14 = .bool (!r4.2) := congrFun qe245 14
  clear qe245
  refine wcondP (p0 := [1, 1, 0, 1, 0]) (p1 := [1, 1, 0, 1, 1]) (t := (!r4.2)) rfl rfl rfl (by decide) s14_e245 (fun hb => ?_) (fun hb => ?_)
  · replace h := br_t hb h
    refine wseqP (p0 := [1, 1, 0, 1, 0, 0]) (p1 := [1, 1, 0, 1, 0, 1]) rfl rfl rfl ?_
    refine wregionT point_Mul.o4 (.tp 0 (.ef 1 (.tp 2 (.done)))) [1] rfl rfl (by kernel_rfl) (by kernel_rfl) ?_
    refine k_build (v := .agg (ints .u8 (List.replicate 32 (0 : Int))).toArray) rfl (fun _ => by kernel_rfl) ?_
    refine k_storeA (v := .agg (ints .u8 (List.replicate 32 (0 : Int))).toArray) 2 0 (r := ⟨g3, 0, ints .u8 (List.replicate 32 (0 : Int))⟩) (ints .u8 (List.replicate 32 (0 : Int))) (ints .u8 (List.replicate 32 (0 : Int))) rfl (n := 32) (by kernel_rfl) s4_e245 rfl rfl ((ints_length _ _).trans List.length_replicate) (ints_one _ _) hp rfl rfl rfl (Nat.le_of_eq ((Nat.zero_add _).trans ((ints_length _ _).trans List.length_replicate).symm)) (setMany_all _ _ (((ints_length _ _).trans List.length_replicate).trans ((ints_length _ _).trans List.length_replicate).symm)) (by decide) ?_; intro w hp
    refine k_assign (v := .int .i64 2) rfl rfl ?_
    refine k_end ?_; intro e246 qe246
    have s4_e246 : e246 4 = .pointer (some ⟨g3, 0, none⟩) := (congrFun qe246 4).trans s4_e245
    have s5_e246 : e246 5 = .int .i64 2 := congrFun qe246 5
    clear qe246
    refine wret rfl ?_
    have hr : r = ((List.replicate 32 (0 : Int)), 2) := (Option.some.inj h).symm
    show RetP _ _ _ _ _
    rw [hr]
    exact ret_i [.agg (ints .u8 (List.replicate 32 (0 : Int))).toArray, .int .i64 2] (res_cell s4_e246 (loadVar_agg (by kernel_rfl) (by kernel_rfl) ((ints_length _ _).trans List.length_replicate) (hp.get (j := 2) rfl) rfl rfl rfl) (res_tmp s5_e246 res_nil)) ⟨rfl, List.length_replicate, hp.none⟩
  · replace h := br_f hb h
    refine wskip rfl ?_
    refine wseqP (p0 := [1, 1, 1, 0]) (p1 := [1, 1, 1, 1]) rfl rfl rfl ?_
    refine wregionT point_Mul.o5 (.tk 0 (.tk 1 (.ef 2 (.ef 3 (.ef 4 (.tp 5 (.done))))))) [4] rfl rfl (by kernel_rfl) (by kernel_rfl) ?_
    refine k_loadA (n := 20) (xs := ints .u64 r4.1) 0 rfl (by kernel_rfl) (by kernel_rfl) s6_e245 (hp.get (j := 3) rfl) rfl rfl ((ints_length _ _).trans lr40) (fun m v hm => by rw [Nat.zero_add]; exact hm) ?_
    refine k_loadA (n := 32) (xs := ints .u8 a0) 0 rfl (by kernel_rfl) (by kernel_rfl) s2_e245 (hp.get (j := 0) rfl) rfl rfl ((ints_length _ _).trans la0) (fun m v hm => by rw [Nat.zero_add]; exact hm) ?_
    obtain ⟨r6, qr6, h⟩ := bd_e h
    refine k_call [.agg (ints .u64 r4.1).toArray, .agg (ints .u8 a0).toArray] rfl (by kernel_rfl) (args2 rfl rfl) (point_Point_Times_ok k r4.1 a0 lr40 la0 _ (hp.toR (fun _ h => by cases h)) qr6) ?_
    rintro _ w' ⟨_, rfl, rfl, lr60, hpc⟩
    refine ⟨_, rfl, .inr (.of_below hpc.chg.to_below), ?_⟩; have hp := hp.below hpc.chg.to_below; clear hpc
    obtain ⟨r7, qr7, h⟩ := bd_e h
    refine k_call [.agg (ints .u64 r6).toArray] rfl (by kernel_rfl) (args1 rfl) (point_Point_Bytes_ok k r6 lr60 _ (hp.toR (fun _ h => by cases h)) qr7) ?_
    rintro _ w' ⟨_, rfl, rfl, lr70, hpc⟩
    refine ⟨_, rfl, .inr (.of_below hpc.chg.to_below), ?_⟩; have hp := hp.below hpc.chg.to_below; clear hpc
    refine k_storeA (v := .agg (ints .u8 r7).toArray) 2 0 (r := ⟨g3, 0, ints .u8 (List.replicate 32 (0 : Int))⟩) (ints .u8 r7) (ints .u8 r7) rfl (n := 32) (by kernel_rfl) s4_e245 rfl rfl ((ints_length _ _).trans lr70) (ints_one _ _) hp rfl rfl rfl (Nat.le_of_eq ((Nat.zero_add _).trans ((ints_length _ _).trans List.length_replicate).symm)) (setMany_all _ _ (((ints_length _ _).trans lr70).trans ((ints_length _ _).trans List.length_replicate).symm)) (by decide) ?_; intro w hp
    refine k_assign (v := .int .i64 0) rfl rfl ?_
    refine k_end ?_; intro e247 qe247
    have s4_e247 : e247 4 = .pointer (some ⟨g3, 0, none⟩) := (congrFun qe247 4).trans s4_e245
    have s5_e247 : e247 5 = .int .i64 0 := congrFun qe247 5
    clear qe247
    refine wret rfl ?_
    have hr : r = (r7, 0) := (Option.some.inj h).symm
    show RetP _ _ _ _ _
    rw [hr]
    exact ret_i [.agg (ints .u8 r7).toArray, .int .i64 0] (res_cell s4_e247 (loadVar_agg (by kernel_rfl) (by kernel_rfl) ((ints_length _ _).trans lr70) (hp.get (j := 2) rfl) rfl rfl rfl) (res_tmp s5_e247 res_nil)) ⟨rfl, lr70, hp.none⟩
/-! 4 postilion/postilionlaw06.PointBytes -/
noncomputable def postilionlaw06_PointBytes.o1 : Array Oper := opsC (at_ (fbody Try.f4) [0])
noncomputable def postilionlaw06_PointBytes.o2 : Array Oper := opsC (at_ (fbody Try.f4) [1, 0, 0])
noncomputable def postilionlaw06_PointBytes.o3 : Array Oper := opsC (at_ (fbody Try.f4) [1, 0, 1, 0, 0])
noncomputable def postilionlaw06_PointBytes.o4 : Array Oper := opsC (at_ (fbody Try.f4) [1, 1, 0])
noncomputable def postilionlaw06_PointBytes.o5 : Array Oper := opsC (at_ (fbody Try.f4) [1, 1, 1, 0, 0])
noncomputable def postilionlaw06_PointBytes.o6 : Array Oper := opsC (at_ (fbody Try.f4) [1, 1, 1, 0, 1, 0, 0])
noncomputable def postilionlaw06_PointBytes.o7 : Array Oper := opsC (at_ (fbody Try.f4) [1, 1, 1, 1, 0])
noncomputable def postilionlaw06_PointBytes.o8 : Array Oper := opsC (at_ (fbody Try.f4) [1, 1, 1, 1, 1, 0])
noncomputable def postilionlaw06_PointBytes.o9 : Array Oper := opsC (at_ (fbody Try.f4) [1, 1, 1, 1, 1, 1, 0])
theorem postilionlaw06_PointBytes.p1_ok {w0 : World} {Ws : List Wr} {Q : Exit → Env → World → Prop} (g1 g5 : Nat) (x6 : Int) (a0 : List Int) (r4 : List Int × Int) (la0 : a0.length = 32) (lr40 : r4.1.length = 32) {r : Bool} (hQ0 : ∀ (e' : Env) (w' : World) (z0 : Bool), e' 2 = .bool z0 → Hp w0 Ws w' [⟨g1, 0, ints .u8 a0⟩, ⟨g5, 0, ints .u8 r4.1⟩] [] → r = (z0) → Q .normal e' w') (e : Env) (w : World) (s3_e : e 3 = .pointer (some ⟨g5, 0, none⟩)) (s4_e : e 4 = .int .i64 x6) (hp : Hp w0 Ws w [⟨g1, 0, ints .u8 a0⟩, ⟨g5, 0, ints .u8 r4.1⟩] []) (h : postilionlaw06_PointBytes.p1 x6 r4 = some r) : Wp Try.prog Try.f4.ntmps (at_ (fbody Try.f4) [1, 1, 1, 0, 1, 0, 0]) Q e w := by
  unfold postilionlaw06_PointBytes.p1 at h
  refine wregionT postilionlaw06_PointBytes.o6 (.tp 0 (.tp 1 (.tp 2 (.tk 3 (.tp 4 (.tp 5 (.tp 6 (.tp 7 (.done))))))))) [] rfl rfl (by kernel_rfl) (by kernel_rfl) ?_
  refine k_move (v := .int .i64 x6) rfl s4_e ?_
  refine k_bin (X := .int .i64 x6) (Y := .int .i64 2) rfl rfl rfl rfl ?_
  rcases Bool.eq_false_or_eq_true (x6 == 2) with hb | hb
  · replace h := br_t hb h
    refine k_move (v := .bool true) rfl (Eq.trans (b := .bool (x6 == 2)) rfl (congrArg Value.bool hb)) ?_
    refine k_loadA (n := 32) (xs := ints .u8 r4.1) 0 rfl (by kernel_rfl) (by kernel_rfl) s3_e (hp.get (j := 1) rfl) rfl rfl ((ints_length _ _).trans lr40) (fun m v hm => by rw [Nat.zero_add]; exact hm) ?_
    refine k_build (v := .agg (ints .u8 (List.replicate 32 (0 : Int))).toArray) rfl (fun _ => by kernel_rfl) ?_
    refine k_eqI (k := .u8) (l := r4.1) (l' := (List.replicate 32 (0 : Int))) rfl Try.underlying22 Try.underlying5 (by kernel_rfl) (by kernel_rfl) rfl rfl lr40 List.length_replicate ?_
    refine k_pick (b := true) (v := .bool (r4.1 == (List.replicate 32 (0 : Int)))) rfl rfl rfl rfl rfl ?_
    refine k_assign (v := .bool (r4.1 == (List.replicate 32 (0 : Int)))) rfl rfl ?_
    refine k_end ?_; intro e253 qe253
    have s2_e253 : e253 2 = .bool (r4.1 == (List.replicate 32 (0 : Int))) := congrFun qe253 2
    clear qe253
    exact hQ0 _ _ (r4.1 == (List.replicate 32 (0 : Int)))  s2_e253 (hp.drop (L' := [⟨g1, 0, ints .u8 a0⟩, ⟨g5, 0, ints .u8 r4.1⟩]) (List.Sublist.refl _)) (Option.some.inj h).symm
  · replace h := br_f hb h
    refine k_move (v := .bool false) rfl (Eq.trans (b := .bool (x6 == 2)) rfl (congrArg Value.bool hb)) ?_
    refine k_skip_tk rfl ?_
    refine k_skip rfl ?_
    refine k_skip rfl ?_
    refine k_pick (b := false) (v := .bool false) rfl rfl rfl rfl rfl ?_
    refine k_assign (v := .bool false) rfl rfl ?_
    refine k_end ?_; intro e254 qe254
    have s2_e254 : e254 2 = .bool false := congrFun qe254 2
    clear qe254
    exact hQ0 _ _ false  s2_e254 (hp.drop (L' := [⟨g1, 0, ints .u8 a0⟩, ⟨g5, 0, ints .u8 r4.1⟩]) (List.Sublist.refl _)) (Option.some.inj h).symm
theorem postilionlaw06_PointBytes.p2_ok {w0 : World} {Ws : List Wr} {Q : Exit → Env → World → Prop} (g1 g11 g14 g5 : Nat) (x6 : Int) (x12 : Int) (x15 : Int) (a0 : List Int) (r4 : List Int × Int) (r10 : List Int × Int) (r13 : List Int × Int) (la0 : a0.length = 32) (lr40 : r4.1.length = 32) (lr100 : r10.1.length = 32) (lr130 : r13.1.length = 32) {r : Bool} (hQ0 : ∀ (e' : Env) (w' : World) (z0 : Bool), e' 2 = .bool z0 → Hp w0 Ws w' [⟨g1, 0, ints .u8 a0⟩, ⟨g5, 0, ints .u8 r4.1⟩, ⟨g11, 0, ints .u8 r10.1⟩, ⟨g14, 0, ints .u8 r13.1⟩] [] → r = (z0) → Q .normal e' w') (e : Env) (w : World) (s1_e : e 1 = .pointer (some ⟨g1, 0, none⟩)) (s3_e : e 3 = .pointer (some ⟨g5, 0, none⟩)) (s4_e : e 4 = .int .i64 x6) (s5_e : e 5 = .pointer (some ⟨g11, 0, none⟩)) (s6_e : e 6 = .int .i64 x12) (s7_e : e 7 = .pointer (some ⟨g14, 0, none⟩)) (s8_e : e 8 = .int .i64 x15) (hp : Hp w0 Ws w [⟨g1, 0, ints .u8 a0⟩, ⟨g5, 0, ints .u8 r4.1⟩, ⟨g11, 0, ints .u8 r10.1⟩, ⟨g14, 0, ints .u8 r13.1⟩] []) (h : postilionlaw06_PointBytes.p2 x6 x12 x15 a0 r4 r10 r13 = some r) : Wp Try.prog Try.f4.ntmps (at_ (fbody Try.f4) [1, 1, 1, 1, 1, 1, 0]) Q e w := by
  unfold postilionlaw06_PointBytes.p2 at h
  refine wregionT postilionlaw06_PointBytes.o9 (.tp 0 (.tp 1 (.tp 2 (.tk 3 (.tk 4 (.tp 5 (.tp 6 (.tp 7 (.tp 8 (.tp 9 (.tp 10 (.tp 11 (.tp 12 (.tp 13 (.tp 14 (.tp 15 (.tk 16 (.tk 17 (.tp 18 (.tp 19 (.tp 20 (.done)))))))))))))))))))))) [] rfl rfl (by kernel_rfl) (by kernel_rfl) ?_
  refine k_move (v := .int .i64 x6) rfl s4_e ?_
  refine k_bin (X := .int .i64 x6) (Y := .int .i64 0) rfl rfl rfl rfl ?_
  rcases Bool.eq_false_or_eq_true (x6 == 0) with hb | hb
  · replace h := br_t hb h
    refine k_move (v := .bool true) rfl (Eq.trans (b := .bool (x6 == 0)) rfl (congrArg Value.bool hb)) ?_
    refine k_loadA (n := 32) (xs := ints .u8 r4.1) 0 rfl (by kernel_rfl) (by kernel_rfl) s3_e (hp.get (j := 1) rfl) rfl rfl ((ints_length _ _).trans lr40) (fun m v hm => by rw [Nat.zero_add]; exact hm) ?_
    refine k_loadA (n := 32) (xs := ints .u8 a0) 0 rfl (by kernel_rfl) (by kernel_rfl) s1_e (hp.get (j := 0) rfl) rfl rfl ((ints_length _ _).trans la0) (fun m v hm => by rw [Nat.zero_add]; exact hm) ?_
    refine k_eqI (k := .u8) (l := r4.1) (l' := a0) rfl Try.underlying22 Try.underlying5 (by kernel_rfl) (by kernel_rfl) rfl rfl lr40 la0 ?_
    refine k_pick (b := true) (v := .bool (r4.1 == a0)) rfl rfl rfl rfl rfl ?_
    rcases Bool.eq_false_or_eq_true (r4.1 == a0) with hb | hb
    · replace h := br_t hb h
      refine k_move (v := .bool true) rfl (Eq.trans (b := .bool (r4.1 == a0)) rfl (congrArg Value.bool hb)) ?_
      refine k_move (v := .int .i64 x12) rfl s6_e ?_
      refine k_bin (X := .int .i64 x12) (Y := .int .i64 0) rfl rfl rfl rfl ?_
      refine k_pick (b := true) (v := .bool (x12 == 0)) rfl rfl rfl rfl rfl ?_
      rcases Bool.eq_false_or_eq_true (x12 == 0) with hb | hb
      · replace h := br_t hb h
        refine k_move (v := .bool true) rfl (Eq.trans (b := .bool (x12 == 0)) rfl (congrArg Value.bool hb)) ?_
        refine k_move (v := .int .i64 x15) rfl s8_e ?_
        refine k_bin (X := .int .i64 x15) (Y := .int .i64 0) rfl rfl rfl rfl ?_
        refine k_pick (b := true) (v := .bool (x15 == 0)) rfl rfl rfl rfl rfl ?_
        rcases Bool.eq_false_or_eq_true (x15 == 0) with hb | hb
        · replace h := br_t hb h
          refine k_move (v := .bool true) rfl (Eq.trans (b := .bool (x15 == 0)) rfl (congrArg Value.bool hb)) ?_
          refine k_loadA (n := 32) (xs := ints .u8 r10.1) 0 rfl (by kernel_rfl) (by kernel_rfl) s5_e (hp.get (j := 2) rfl) rfl rfl ((ints_length _ _).trans lr100) (fun m v hm => by rw [Nat.zero_add]; exact hm) ?_
          refine k_loadA (n := 32) (xs := ints .u8 r13.1) 0 rfl (by kernel_rfl) (by kernel_rfl) s7_e (hp.get (j := 3) rfl) rfl rfl ((ints_length _ _).trans lr130) (fun m v hm => by rw [Nat.zero_add]; exact hm) ?_
          refine k_eqI (k := .u8) (l := r10.1) (l' := r13.1) rfl Try.underlying22 Try.underlying5 (by kernel_rfl) (by kernel_rfl) rfl rfl lr100 lr130 ?_
          refine k_pick (b := true) (v := .bool (r10.1 == r13.1)) rfl rfl rfl rfl rfl ?_
          refine k_assign (v := .bool (r10.1 == r13.1)) rfl rfl ?_
          refine k_end ?_; intro e258 qe258
          have s2_e258 : e258 2 = .bool (r10.1 == r13.1) := congrFun qe258 2
          clear qe258
          exact hQ0 _ _ (r10.1 == r13.1)  s2_e258 (hp.drop (L' := [⟨g1, 0, ints .u8 a0⟩, ⟨g5, 0, ints .u8 r4.1⟩, ⟨g11, 0, ints .u8 r10.1⟩, ⟨g14, 0, ints .u8 r13.1⟩]) (List.Sublist.refl _)) (Option.some.inj h).symm
        · replace h := br_f hb h
          refine k_move (v := .bool false) rfl (Eq.trans (b := .bool (x15 == 0)) rfl (congrArg Value.bool hb)) ?_
          refine k_skip_tk rfl ?_
          refine k_skip_tk rfl ?_
          refine k_skip rfl ?_
          refine k_pick (b := false) (v := .bool false) rfl rfl rfl rfl rfl ?_
          refine k_assign (v := .bool false) rfl rfl ?_
          refine k_end ?_; intro e259 qe259
          have s2_e259 : e259 2 = .bool false := congrFun qe259 2
          clear qe259
          exact hQ0 _ _ false  s2_e259 (hp.drop (L' := [⟨g1, 0, ints .u8 a0⟩, ⟨g5, 0, ints .u8 r4.1⟩, ⟨g11, 0, ints .u8 r10.1⟩, ⟨g14, 0, ints .u8 r13.1⟩]) (List.Sublist.refl _)) (Option.some.inj h).symm
      · replace h := br_f hb h
        refine k_move (v := .bool false) rfl (Eq.trans (b := .bool (x12 == 0)) rfl (congrArg Value.bool hb)) ?_
        refine k_skip rfl ?_
        refine k_skip rfl ?_
        refine k_pick (b := false) (v := .bool false) rfl rfl rfl rfl rfl ?_
        refine k_move (v := .bool false) rfl rfl ?_
        refine k_skip_tk rfl ?_
        refine k_skip_tk rfl ?_
        refine k_skip rfl ?_
        refine k_pick (b := false) (v := .bool false) rfl rfl rfl rfl rfl ?_
        refine k_assign (v := .bool false) rfl rfl ?_
        refine k_end ?_; intro e260 qe260
        have s2_e260 : e260 2 = .bool false := congrFun qe260 2
        clear qe260
        exact hQ0 _ _ false  s2_e260 (hp.drop (L' := [⟨g1, 0, ints .u8 a0⟩, ⟨g5, 0, ints .u8 r4.1⟩, ⟨g11, 0, ints .u8 r10.1⟩, ⟨g14, 0, ints .u8 r13.1⟩]) (List.Sublist.refl _)) (Option.some.inj h).symm
    · replace h := br_f hb h
      refine k_move (v := .bool false) rfl (Eq.trans (b := .bool (r4.1 == a0)) rfl (congrArg Value.bool hb)) ?_
      refine k_skip rfl ?_
      refine k_skip rfl ?_
      refine k_pick (b := false) (v := .bool false) rfl rfl rfl rfl rfl ?_
      refine k_move (v := .bool false) rfl rfl ?_
      refine k_skip rfl ?_
      refine k_skip rfl ?_
      refine k_pick (b := false) (v := .bool false) rfl rfl rfl rfl rfl ?_
      refine k_move (v := .bool false) rfl rfl ?_
      refine k_skip_tk rfl ?_
      refine k_skip_tk rfl ?_
      refine k_skip rfl ?_
      refine k_pick (b := false) (v := .bool false) rfl rfl rfl rfl rfl ?_
      refine k_assign (v := .bool false) rfl rfl ?_
      refine k_end ?_; intro e261 qe261
      have s2_e261 : e261 2 = .bool false := congrFun qe261 2
      clear qe261
      exact hQ0 _ _ false  s2_e261 (hp.drop (L' := [⟨g1, 0, ints .u8 a0⟩, ⟨g5, 0, ints .u8 r4.1⟩, ⟨g11, 0, ints .u8 r10.1⟩, ⟨g14, 0, ints .u8 r13.1⟩]) (List.Sublist.refl _)) (Option.some.inj h).symm
  · replace h := br_f hb h
    refine k_move (v := .bool false) rfl (Eq.trans (b := .bool (x6 == 0)) rfl (congrArg Value.bool hb)) ?_
    refine k_skip_tk rfl ?_
    refine k_skip_tk rfl ?_
    refine k_skip rfl ?_
    refine k_pick (b := false) (v := .bool false) rfl rfl rfl rfl rfl ?_
    refine k_move (v := .bool false) rfl rfl ?_
    refine k_skip rfl ?_
    refine k_skip rfl ?_
    refine k_pick (b := false) (v := .bool false) rfl rfl rfl rfl rfl ?_
    refine k_move (v := .bool false) rfl rfl ?_
    refine k_skip rfl ?_
    refine k_skip rfl ?_
    refine k_pick (b := false) (v := .bool false) rfl rfl rfl rfl rfl ?_
    refine k_move (v := .bool false) rfl rfl ?_
    refine k_skip_tk rfl ?_
    refine k_skip_tk rfl ?_
    refine k_skip rfl ?_
    refine k_pick (b := false) (v := .bool false) rfl rfl rfl rfl rfl ?_
    refine k_assign (v := .bool false) rfl rfl ?_
    refine k_end ?_; intro e262 qe262
    have s2_e262 : e262 2 = .bool false := congrFun qe262 2
    clear qe262
    exact hQ0 _ _ false  s2_e262 (hp.drop (L' := [⟨g1, 0, ints .u8 a0⟩, ⟨g5, 0, ints .u8 r4.1⟩, ⟨g11, 0, ints .u8 r10.1⟩, ⟨g14, 0, ints .u8 r13.1⟩]) (List.Sublist.refl _)) (Option.some.inj h).symm
set_option maxHeartbeats 4000000 in
theorem postilionlaw06_PointBytes_ok (k : Nat) (a0 : List Int) (la0 : a0.length = 32) (w0 : World) (hp : Hp w0 [] w0 [] []) {r : Bool} (h : postilionlaw06_PointBytes.f k a0 = some r) :
    Calls Try.prog 4 [.agg (ints .u8 a0).toArray].toArray w0 fun x w' => ∃ v, x = .returned v ∧ v = .bool r ∧ Hp w0 [] w' [] [] := by
  refine calls_inP Try.func4 rfl (Nat.le_of_ble_eq_true (by kernel_rfl)) (by kernel_rfl) ?_
  intro e0 qe0
  have s0_e0 : e0 0 = .agg (ints .u8 a0).toArray := congrFun qe0 0
  clear qe0
  unfold postilionlaw06_PointBytes.f at h
  refine wseqP (p0 := [0]) (p1 := [1]) rfl rfl rfl ?_
  refine wregionT postilionlaw06_PointBytes.o1 (.ef 0 (.tp 1 (.done))) [] rfl rfl (by kernel_rfl) (by kernel_rfl) ?_
  refine k_box (v := .agg (ints .u8 a0).toArray) (ints .u8 a0) rfl s0_e0 rfl hp ?_
  intro g1 w hbg1 hp
  refine k_assign (v := .bool false) rfl rfl ?_
  refine k_end ?_; intro e248 qe248
  have s1_e248 : e248 1 = .pointer (some ⟨g1, 0, none⟩) := congrFun qe248 1
  clear qe248
  refine wseqP (p0 := [1, 0]) (p1 := [1, 1]) rfl rfl rfl ?_
  refine wseqP (p0 := [1, 0, 0]) (p1 := [1, 0, 1]) rfl rfl rfl ?_
  refine wregionT postilionlaw06_PointBytes.o2 (.ef 0 (.tp 1 (.done))) [] rfl rfl (by kernel_rfl) (by kernel_rfl) ?_
  obtain ⟨r2, qr2, h⟩ := bd_e h
  refine k_call [] rfl (by kernel_rfl) (args0 ) (postilionlaw06_awake_ok k   _ (hp.toR (fun _ h => by cases h)) qr2) ?_
  rintro _ w' ⟨_, rfl, rfl, hpc⟩
  refine ⟨_, rfl, .inr (.of_below hpc.chg.to_below), ?_⟩; have hp := hp.below hpc.chg.to_below; clear hpc
  refine k_not (b := r2) rfl rfl ?_
  refine k_end ?_; intro e249 qe249
  have s1_e249 : e249 1 = .pointer (some ⟨g1, 0, none⟩) := (congrFun qe249 1).trans s1_e248
  have s10_e249 : e249 10 = .bool (!r2) := congrFun qe249 10
  clear qe249
  refine wcondP (p0 := [1, 0, 1, 0]) (p1 := [1, 0, 1, 1]) (t := (!r2)) rfl rfl rfl (by decide) s10_e249 (fun hb => ?_) (fun hb => ?_)
  · replace h := br_t hb h
    refine wseqP (p0 := [1, 0, 1, 0, 0]) (p1 := [1, 0, 1, 0, 1]) rfl rfl rfl ?_
    refine wregionT postilionlaw06_PointBytes.o3 (.tp 0 (.done)) [] rfl rfl (by kernel_rfl) (by kernel_rfl) ?_
    refine k_assign (v := .bool false) rfl rfl ?_
    refine k_end ?_; intro e250 qe250
    have s2_e250 : e250 2 = .bool false := congrFun qe250 2
    clear qe250
    refine wret rfl ?_
    have hr : r = false := (Option.some.inj h).symm
    show RetP _ _ _ _ _
    rw [hr]
    exact ret_i [.bool false] (res_tmp s2_e250 res_nil) ⟨rfl, hp.none⟩
  · replace h := br_f hb h
    refine wskip rfl ?_
    refine wseqP (p0 := [1, 1, 0]) (p1 := [1, 1, 1]) rfl rfl rfl ?_
    obtain ⟨r3, qr3, h⟩ := bd_e h
    obtain ⟨r4, qr4, h⟩ := bd_e h
    obtain ⟨x6, qx6, h⟩ := lt_e h
    refine wcut (fun e251 w2 => ∃ g5 : Nat, ((r4.1.length = 32 ∧ e251 1 = .pointer (some ⟨g1, 0, none⟩)) ∧ (e251 3 = .pointer (some ⟨g5, 0, none⟩) ∧ e251 4 = .int .i64 x6)) ∧ Hp w0 [] w2 [⟨g1, 0, ints .u8 a0⟩, ⟨g5, 0, ints .u8 r4.1⟩] []) ?_ ?_
    rotate_left
    · refine wregionM postilionlaw06_PointBytes.o4 (.tk 0 (.rest 1 8)) [7] [(0, 0, 0), (0, 511, 511), (3, 511, 511), (4, 511, 511), (8, 511, 511), (8, 511, 511), (0, 511, 511), (95, 511, 511), (255, 511, 511)] rfl rfl (by kernel_rfl) (by kernel_rfl) (Nat.le_of_ble_eq_true (by kernel_rfl)) (by kernel_rfl) (by kernel_rfl) (by kernel_rfl) ?_
      have hp := hp.drew
      refine k_loadA (n := 32) (xs := ints .u8 a0) 0 rfl (by kernel_rfl) (by kernel_rfl) s1_e249 (hp.get (j := 0) rfl) rfl rfl ((ints_length _ _).trans la0) (fun m v hm => by rw [Nat.zero_add]; exact hm) ?_
      refine k_rest [1, 2, 3, 4, 5, 6, 7, 8] (fun L e w => ∃ g5 : Nat, ∃ c_g5_0 : List Int, (((((L 1 = true → r3.length = 32) ∧ (L 2 = true → r4.1.length = 32)) ∧ ((e 1 = .pointer (some ⟨g1, 0, none⟩) ∧ e 12 = .agg (ints .u8 a0).toArray) ∧ (L 1 = true → e 13 = .agg (ints .u8 r3).toArray))) ∧ (((L 2 = true → e 14 = .tuple #[.agg (ints .u8 r4.1).toArray, .int .i64 r4.2]) ∧ (L 3 = true → e 11 = .tuple #[.agg (ints .u8 r4.1).toArray, .int .i64 r4.2])) ∧ (L 4 = true → e 15 = .agg (ints .u8 r4.1).toArray))) ∧ ((((L 5 = true → e 16 = .int .i64 r4.2) ∧ (L 6 = true → e 3 = .pointer (some ⟨g5, 0, none⟩))) ∧ (L 8 = true → e 4 = .int .i64 r4.2)) ∧ (((L 6 = false → c_g5_0 = ([] : List Int)) ∧ (L 7 = false → L 6 = true → c_g5_0 = (List.replicate 32 (0 : Int)))) ∧ (L 7 = true → c_g5_0 = r4.1)))) ∧ Hp w0 [] w [⟨g1, 0, ints .u8 a0⟩, ⟨g5, 0, ints .u8 c_g5_0⟩] []) (by kernel_rfl) (by kernel_rfl) ?_ ?_ ?_
      have hp := hp.free1 0 0
      · exact ⟨0, ([] : List Int), ⟨⟨⟨⟨(fun h => absurd h (by decide)), (fun h => absurd h (by decide))⟩, ⟨⟨s1_e249, rfl⟩, (fun h => absurd h (by decide))⟩⟩, ⟨⟨(fun h => absurd h (by decide)), (fun h => absurd h (by decide))⟩, (fun h => absurd h (by decide))⟩⟩, ⟨⟨⟨(fun h => absurd h (by decide)), (fun h => absurd h (by decide))⟩, (fun h => absurd h (by decide))⟩, ⟨⟨(fun _ => rfl), (fun _ h => absurd h (by decide))⟩, (fun h => absurd h (by decide))⟩⟩⟩, hp⟩
      · rintro L e w hall ⟨g5, c_g5_0, hF, hp⟩
        have qc_g5_0 := hF.2.2.2 (hall 7 rfl)
        rw [qc_g5_0] at hp
        exact onlyN_i ⟨g5, ⟨⟨(hF.1.1.1.2 (hall 2 rfl)), hF.1.1.2.1.1⟩, ⟨(hF.2.1.1.2 (hall 6 rfl)), (hF.2.1.2 (hall 8 rfl)).trans (congrArg (Value.int .i64) qx6.symm)⟩⟩, hp⟩
      refine allU_cons ?_ ?_
      · rintro L e w hLi hb hcl ⟨g5, c_g5_0, hF, hp⟩
        refine k_call [] rfl (by kernel_rfl) (args0 ) (point_Zero_ok   _ (hp.toR (fun _ h => by cases h)) qr3) ?_
        rintro _ w' ⟨_, rfl, rfl, lr30, hpc⟩
        refine ⟨_, rfl, .inr (.of_below hpc.chg.to_below), ?_⟩; have hp := hp.below hpc.chg.to_below; clear hpc
        exact k_done ⟨g5, c_g5_0, ⟨⟨⟨⟨(fun _ => lr30), hF.1.1.1.2⟩, ⟨hF.1.1.2.1, (fun _ => rfl)⟩⟩, hF.1.2⟩, hF.2⟩, hp⟩
      refine allU_cons ?_ ?_
      · rintro L e w hLi hb hcl ⟨g5, c_g5_0, hF, hp⟩
        have hL1 := hb 1 (by kernel_rfl)
        have lr30 := hF.1.1.1.1 hL1
        refine k_call [.agg (ints .u8 a0).toArray, .agg (ints .u8 r3).toArray] rfl (by kernel_rfl) (args2 hF.1.1.2.1.2 (hF.1.1.2.2 hL1)) (point_Add_ok k a0 r3 la0 lr30 _ (hp.toR (fun _ h => by cases h)) qr4) ?_
        rintro _ w' ⟨_, rfl, rfl, lr40, hpc⟩
        refine ⟨_, rfl, .inr (.of_below hpc.chg.to_below), ?_⟩; have hp := hp.below hpc.chg.to_below; clear hpc
        exact k_done ⟨g5, c_g5_0, ⟨⟨⟨⟨hF.1.1.1.1, (fun _ => lr40)⟩, hF.1.1.2⟩, ⟨⟨(fun _ => rfl), hF.1.2.1.2⟩, hF.1.2.2⟩⟩, hF.2⟩, hp⟩
      refine allU_cons ?_ ?_
      · rintro L e w hLi hb hcl ⟨g5, c_g5_0, hF, hp⟩
        have hL2 := hb 2 (by kernel_rfl)
        refine tp_ef ?_
        refine k_move (v := .tuple #[.agg (ints .u8 r4.1).toArray, .int .i64 r4.2]) rfl (hF.1.2.1.1 hL2) ?_
        exact k_done ⟨g5, c_g5_0, ⟨⟨hF.1.1, ⟨⟨hF.1.2.1.1, (fun _ => rfl)⟩, hF.1.2.2⟩⟩, hF.2⟩, hp⟩
      refine allU_cons ?_ ?_
      · rintro L e w hLi hb hcl ⟨g5, c_g5_0, hF, hp⟩
        have hL3 := hb 3 (by kernel_rfl)
        refine tp_ef ?_
        refine k_extract (v := .agg (ints .u8 r4.1).toArray) rfl (hF.1.2.1.2 hL3) rfl ?_
        exact k_done ⟨g5, c_g5_0, ⟨⟨hF.1.1, ⟨hF.1.2.1, (fun _ => rfl)⟩⟩, hF.2⟩, hp⟩
      refine allU_cons ?_ ?_
      · rintro L e w hLi hb hcl ⟨g5, c_g5_0, hF, hp⟩
        have hL3 := hb 3 (by kernel_rfl)
        refine tp_ef ?_
        refine k_extract (v := .int .i64 r4.2) rfl (hF.1.2.1.2 hL3) rfl ?_
        exact k_done ⟨g5, c_g5_0, ⟨hF.1, ⟨⟨⟨(fun _ => rfl), hF.2.1.1.2⟩, hF.2.1.2⟩, hF.2.2⟩⟩, hp⟩
      refine allU_cons ?_ ?_
      · rintro L e w hLi hb hcl ⟨g5, c_g5_0, hF, hp⟩
        have qc_g5_0 := hF.2.2.1.1 hLi
        rw [qc_g5_0] at hp
        refine k_allocAt 1 (ints .u8 (List.replicate 32 (0 : Int))) rfl (by kernel_rfl) hp ?_
        intro g5 w hbg5 hp
        exact k_done ⟨g5, (List.replicate 32 (0 : Int)), ⟨hF.1, ⟨⟨⟨hF.2.1.1.1, (fun _ => rfl)⟩, hF.2.1.2⟩, ⟨⟨(fun h => nomatch (show true = false from h)), (fun _ _ => rfl)⟩, (fun h => absurd (hLi.symm.trans (hcl 7 6 (by kernel_rfl) h)) (by decide))⟩⟩⟩, hp⟩
      refine allU_cons ?_ ?_
      · rintro L e w hLi hb hcl ⟨g5, c_g5_0, hF, hp⟩
        have hL2 := hb 2 (by kernel_rfl)
        have hL4 := hb 4 (by kernel_rfl)
        have hL6 := hb 6 (by kernel_rfl)
        have lr40 := hF.1.1.1.2 hL2
        have qc_g5_0 := hF.2.2.1.2 hLi hL6
        rw [qc_g5_0] at hp
        refine k_storeA (v := .agg (ints .u8 r4.1).toArray) 1 0 (r := ⟨g5, 0, ints .u8 (List.replicate 32 (0 : Int))⟩) (ints .u8 r4.1) (ints .u8 r4.1) rfl (n := 32) (by kernel_rfl) (hF.2.1.1.2 hL6) (hF.1.2.2 hL4) rfl ((ints_length _ _).trans lr40) (ints_one _ _) hp rfl rfl rfl (Nat.le_of_eq ((Nat.zero_add _).trans ((ints_length _ _).trans List.length_replicate).symm)) (setMany_all _ _ (((ints_length _ _).trans lr40).trans ((ints_length _ _).trans List.length_replicate).symm)) (by decide) ?_; intro w hp
        exact k_done ⟨g5, r4.1, ⟨hF.1, ⟨hF.2.1, ⟨⟨(fun h => absurd (hL6.symm.trans h) (by decide)), (fun h _ => nomatch (show true = false from h))⟩, (fun _ => rfl)⟩⟩⟩, hp⟩
      refine allU_cons ?_ allU_nil
      · rintro L e w hLi hb hcl ⟨g5, c_g5_0, hF, hp⟩
        have hL5 := hb 5 (by kernel_rfl)
        refine tp_ef ?_
        refine k_assign (v := .int .i64 r4.2) rfl (hF.2.1.1.1 hL5) ?_
        exact k_done ⟨g5, c_g5_0, ⟨hF.1, ⟨⟨hF.2.1.1, (fun _ => rfl)⟩, hF.2.2⟩⟩, hp⟩
    rintro e251 w ⟨g5, hF, hp⟩
    have lr40 := hF.1.1
    have s1_e251 := hF.1.2
    have s3_e251 := hF.2.1
    have s4_e251 := hF.2.2
    clear hF
    refine wseqP (p0 := [1, 1, 1, 0]) (p1 := [1, 1, 1, 1]) rfl rfl rfl ?_
    refine wseqP (p0 := [1, 1, 1, 0, 0]) (p1 := [1, 1, 1, 0, 1]) rfl rfl rfl ?_
    refine wregionT postilionlaw06_PointBytes.o5 (.tk 0 (.ef 1 (.tp 2 (.done)))) [] rfl rfl (by kernel_rfl) (by kernel_rfl) ?_
    refine k_loadA (n := 32) (xs := ints .u8 a0) 0 rfl (by kernel_rfl) (by kernel_rfl) s1_e251 (hp.get (j := 0) rfl) rfl rfl ((ints_length _ _).trans la0) (fun m v hm => by rw [Nat.zero_add]; exact hm) ?_
    obtain ⟨r7, qr7, h⟩ := bd_e h
    refine k_call [.agg (ints .u8 a0).toArray] rfl (by kernel_rfl) (args1 rfl) (point_Check_ok k a0 la0 _ (hp.toR (fun _ h => by cases h)) qr7) ?_
    rintro _ w' ⟨_, rfl, rfl, hpc⟩
    refine ⟨_, rfl, .inr (.of_below hpc.chg.to_below), ?_⟩; have hp := hp.below hpc.chg.to_below; clear hpc
    refine k_bin (X := .int .i64 r7) (Y := .int .i64 0) rfl rfl rfl rfl ?_
    refine k_end ?_; intro e252 qe252
    have s1_e252 : e252 1 = .pointer (some ⟨g1, 0, none⟩) := (congrFun qe252 1).trans s1_e251
    have s3_e252 : e252 3 = .pointer (some ⟨g5, 0, none⟩) := (congrFun qe252 3).trans s3_e251
    have s4_e252 : e252 4 = .int .i64 x6 := (congrFun qe252 4).trans s4_e251
    have s19_e252 : e252 19 = .bool (r7 != 0) := congrFun qe252 19
    clear qe252
    refine wcondP (p0 := [1, 1, 1, 0, 1, 0]) (p1 := [1, 1, 1, 0, 1, 1]) (t := (r7 != 0)) rfl rfl rfl (by decide) s19_e252 (fun hb => ?_) (fun hb => ?_)
    · replace h := br_t hb h
      refine wseqP (p0 := [1, 1, 1, 0, 1, 0, 0]) (p1 := [1, 1, 1, 0, 1, 0, 1]) rfl rfl rfl ?_
      obtain ⟨r8, qr8, h⟩ := bd_e h
      refine postilionlaw06_PointBytes.p1_ok g1 g5 x6 a0 r4 la0 lr40 ?hq0 e252 _ s3_e252 s4_e252 hp qr8
      case hq0 =>
        intro e255 w m9  s2_e255 hp qq
        rw [qq] at h; clear qq
        refine wret rfl ?_
        have hr : r = m9 := (Option.some.inj h).symm
        show RetP _ _ _ _ _
        rw [hr]
        exact ret_i [.bool m9] (res_tmp s2_e255 res_nil) ⟨rfl, hp.none⟩
    · replace h := br_f hb h
      refine wskip rfl ?_
      refine wseqP (p0 := [1, 1, 1, 1, 0]) (p1 := [1, 1, 1, 1, 1]) rfl rfl rfl ?_
      refine wregionT postilionlaw06_PointBytes.o7 (.tk 0 (.tk 1 (.ef 2 (.tp 3 (.tp 4 (.tp 5 (.ef 6 (.ef 7 (.tp 8 (.done)))))))))) [7] rfl rfl (by kernel_rfl) (by kernel_rfl) ?_
      refine k_loadA (n := 32) (xs := ints .u8 a0) 0 rfl (by kernel_rfl) (by kernel_rfl) s1_e252 (hp.get (j := 0) rfl) rfl rfl ((ints_length _ _).trans la0) (fun m v hm => by rw [Nat.zero_add]; exact hm) ?_
      refine k_loadA (n := 32) (xs := ints .u8 a0) 0 rfl (by kernel_rfl) (by kernel_rfl) s1_e252 (hp.get (j := 0) rfl) rfl rfl ((ints_length _ _).trans la0) (fun m v hm => by rw [Nat.zero_add]; exact hm) ?_
      obtain ⟨r10, qr10, h⟩ := bd_e h
      refine k_call [.agg (ints .u8 a0).toArray, .agg (ints .u8 a0).toArray] rfl (by kernel_rfl) (args2 rfl rfl) (point_Add_ok k a0 a0 la0 la0 _ (hp.toR (fun _ h => by cases h)) qr10) ?_
      rintro _ w' ⟨_, rfl, rfl, lr100, hpc⟩
      refine ⟨_, rfl, .inr (.of_below hpc.chg.to_below), ?_⟩; have hp := hp.below hpc.chg.to_below; clear hpc
      refine k_move (v := .tuple #[.agg (ints .u8 r10.1).toArray, .int .i64 r10.2]) rfl rfl ?_
      refine k_extract (v := .agg (ints .u8 r10.1).toArray) rfl rfl rfl ?_
      refine k_extract (v := .int .i64 r10.2) rfl rfl rfl ?_
      refine k_alloc (ints .u8 (List.replicate 32 (0 : Int))) rfl (by kernel_rfl) hp ?_
      intro g11 w hbg11 hp
      refine k_storeA (v := .agg (ints .u8 r10.1).toArray) 2 0 (r := ⟨g11, 0, ints .u8 (List.replicate 32 (0 : Int))⟩) (ints .u8 r10.1) (ints .u8 r10.1) rfl (n := 32) (by kernel_rfl) rfl rfl rfl ((ints_length _ _).trans lr100) (ints_one _ _) hp rfl rfl rfl (Nat.le_of_eq ((Nat.zero_add _).trans ((ints_length _ _).trans List.length_replicate).symm)) (setMany_all _ _ (((ints_length _ _).trans lr100).trans ((ints_length _ _).trans List.length_replicate).symm)) (by decide) ?_; intro w hp
      refine k_assign (v := .int .i64 r10.2) rfl rfl ?_
      refine k_end ?_; intro e256 qe256
      have s1_e256 : e256 1 = .pointer (some ⟨g1, 0, none⟩) := (congrFun qe256 1).trans s1_e252
      have s3_e256 : e256 3 = .pointer (some ⟨g5, 0, none⟩) := (congrFun qe256 3).trans s3_e252
      have s4_e256 : e256 4 = .int .i64 x6 := (congrFun qe256 4).trans s4_e252
      have s5_e256 : e256 5 = .pointer (some ⟨g11, 0, none⟩) := congrFun qe256 5
      obtain ⟨x12, qx12, h⟩ := lt_e h
      have s6_e256 : e256 6 = .int .i64 x12 := (congrFun qe256 6).trans (congrArg (Value.int .i64) qx12.symm)
      clear qe256
      refine wseqP (p0 := [1, 1, 1, 1, 1, 0]) (p1 := [1, 1, 1, 1, 1, 1]) rfl rfl rfl ?_
      refine wregionT postilionlaw06_PointBytes.o8 (.tp 0 (.tk 1 (.ef 2 (.tp 3 (.tp 4 (.tp 5 (.ef 6 (.ef 7 (.tp 8 (.done)))))))))) [7] rfl rfl (by kernel_rfl) (by kernel_rfl) ?_
      refine k_build (v := .agg (ints .u8 ((List.replicate 32 (0 : Int)).set 0 2)).toArray) rfl (fun _ => by kernel_rfl) ?_
      refine k_loadA (n := 32) (xs := ints .u8 a0) 0 rfl (by kernel_rfl) (by kernel_rfl) s1_e256 (hp.get (j := 0) rfl) rfl rfl ((ints_length _ _).trans la0) (fun m v hm => by rw [Nat.zero_add]; exact hm) ?_
      obtain ⟨r13, qr13, h⟩ := bd_e h
      refine k_call [.agg (ints .u8 ((List.replicate 32 (0 : Int)).set 0 2)).toArray, .agg (ints .u8 a0).toArray] rfl (by kernel_rfl) (args2 rfl rfl) (point_Mul_ok k ((List.replicate 32 (0 : Int)).set 0 2) a0 (List.length_set.trans List.length_replicate) la0 _ (hp.toR (fun _ h => by cases h)) qr13) ?_
      rintro _ w' ⟨_, rfl, rfl, lr130, hpc⟩
      refine ⟨_, rfl, .inr (.of_below hpc.chg.to_below), ?_⟩; have hp := hp.below hpc.chg.to_below; clear hpc
      refine k_move (v := .tuple #[.agg (ints .u8 r13.1).toArray, .int .i64 r13.2]) rfl rfl ?_
      refine k_extract (v := .agg (ints .u8 r13.1).toArray) rfl rfl rfl ?_
      refine k_extract (v := .int .i64 r13.2) rfl rfl rfl ?_
      refine k_alloc (ints .u8 (List.replicate 32 (0 : Int))) rfl (by kernel_rfl) hp ?_
      intro g14 w hbg14 hp
      refine k_storeA (v := .agg (ints .u8 r13.1).toArray) 3 0 (r := ⟨g14, 0, ints .u8 (List.replicate 32 (0 : Int))⟩) (ints .u8 r13.1) (ints .u8 r13.1) rfl (n := 32) (by kernel_rfl) rfl rfl rfl ((ints_length _ _).trans lr130) (ints_one _ _) hp rfl rfl rfl (Nat.le_of_eq ((Nat.zero_add _).trans ((ints_length _ _).trans List.length_replicate).symm)) (setMany_all _ _ (((ints_length _ _).trans lr130).trans ((ints_length _ _).trans List.length_replicate).symm)) (by decide) ?_; intro w hp
      refine k_assign (v := .int .i64 r13.2) rfl rfl ?_
      refine k_end ?_; intro e257 qe257
      have s1_e257 : e257 1 = .pointer (some ⟨g1, 0, none⟩) := (congrFun qe257 1).trans s1_e256
      have s3_e257 : e257 3 = .pointer (some ⟨g5, 0, none⟩) := (congrFun qe257 3).trans s3_e256
      have s4_e257 : e257 4 = .int .i64 x6 := (congrFun qe257 4).trans s4_e256
      have s5_e257 : e257 5 = .pointer (some ⟨g11, 0, none⟩) := (congrFun qe257 5).trans s5_e256
      have s6_e257 : e257 6 = .int .i64 x12 := (congrFun qe257 6).trans s6_e256
      have s7_e257 : e257 7 = .pointer (some ⟨g14, 0, none⟩) := congrFun qe257 7
      obtain ⟨x15, qx15, h⟩ := lt_e h
      have s8_e257 : e257 8 = .int .i64 x15 := (congrFun qe257 8).trans (congrArg (Value.int .i64) qx15.symm)
      clear qe257
      refine wseqP (p0 := [1, 1, 1, 1, 1, 1, 0]) (p1 := [1, 1, 1, 1, 1, 1, 1]) rfl rfl rfl ?_
      obtain ⟨r16, qr16, h⟩ := bd_e h
      refine postilionlaw06_PointBytes.p2_ok g1 g11 g14 g5 x6 x12 x15 a0 r4 r10 r13 la0 lr40 lr100 lr130 ?hq0 e257 _ s1_e257 s3_e257 s4_e257 s5_e257 s6_e257 s7_e257 s8_e257 hp qr16
      case hq0 =>
        intro e263 w m17  s2_e263 hp qq
        rw [qq] at h; clear qq
        refine wret rfl ?_
        have hr : r = m17 := (Option.some.inj h).symm
        show RetP _ _ _ _ _
        rw [hr]
        exact ret_i [.bool m17] (res_tmp s2_e263 res_nil) ⟨rfl, hp.none⟩
/-! 5 postilion/postilionlaw06.PointGroup -/
noncomputable def postilionlaw06_PointGroup.o1 : Array Oper := opsC (at_ (fbody Try.f5) [0])
noncomputable def postilionlaw06_PointGroup.o2 : Array Oper := opsC (at_ (fbody Try.f5) [1, 0, 0])
noncomputable def postilionlaw06_PointGroup.o3 : Array Oper := opsC (at_ (fbody Try.f5) [1, 0, 1, 0, 0])
noncomputable def postilionlaw06_PointGroup.o4 : Array Oper := opsC (at_ (fbody Try.f5) [1, 1, 0])
noncomputable def postilionlaw06_PointGroup.o5 : Array Oper := opsC (at_ (fbody Try.f5) [1, 1, 1, 0])
noncomputable def postilionlaw06_PointGroup.o6 : Array Oper := opsC (at_ (fbody Try.f5) [1, 1, 1, 1, 0])
noncomputable def postilionlaw06_PointGroup.o7 : Array Oper := opsC (at_ (fbody Try.f5) [1, 1, 1, 1, 1, 0])
noncomputable def postilionlaw06_PointGroup.o8 : Array Oper := opsC (at_ (fbody Try.f5) [1, 1, 1, 1, 1, 1, 0])
noncomputable def postilionlaw06_PointGroup.o9 : Array Oper := opsC (at_ (fbody Try.f5) [1, 1, 1, 1, 1, 1, 1, 0])
noncomputable def postilionlaw06_PointGroup.o10 : Array Oper := opsC (at_ (fbody Try.f5) [1, 1, 1, 1, 1, 1, 1, 1, 0])
noncomputable def postilionlaw06_PointGroup.o11 : Array Oper := opsC (at_ (fbody Try.f5) [1, 1, 1, 1, 1, 1, 1, 1, 1, 0])
noncomputable def postilionlaw06_PointGroup.o12 : Array Oper := opsC (at_ (fbody Try.f5) [1, 1, 1, 1, 1, 1, 1, 1, 1, 1, 0])
noncomputable def postilionlaw06_PointGroup.o13 : Array Oper := opsC (at_ (fbody Try.f5) [1, 1, 1, 1, 1, 1, 1, 1, 1, 1, 1, 0, 0])
noncomputable def postilionlaw06_PointGroup.o14 : Array Oper := opsC (at_ (fbody Try.f5) [1, 1, 1, 1, 1, 1, 1, 1, 1, 1, 1, 0, 1, 0, 0])
noncomputable def postilionlaw06_PointGroup.o15 : Array Oper := opsC (at_ (fbody Try.f5) [1, 1, 1, 1, 1, 1, 1, 1, 1, 1, 1, 1, 0])
set_option maxHeartbeats 4000000 in
theorem postilionlaw06_PointGroup.p1_ok {w0 : World} {Ws : List Wr} {Q : Exit → Env → World → Prop} (g1 g10 g12 g15 g18 g2 g21 g24 g27 g3 g30 g34 g8 g9 : Nat) (x13 : Int) (x16 : Int) (x19 : Int) (x22 : Int) (x25 : Int) (x28 : Int) (x31 : Int) (x35 : Int) (a0 : List Int) (a1 : List Int) (a2 : List Int) (r5 : List Int) (r6 : List Int) (r7 : List Int) (r11 : List Int × Int) (r14 : List Int × Int) (r17 : List Int × Int) (r20 : List Int × Int) (r23 : List Int × Int) (r26 : List Int × Int) (r29 : List Int × Int) (r33 : List Int × Int) (la0 : a0.length = 32) (la1 : a1.length = 32) (la2 : a2.length = 32) (lr50 : r5.length = 32) (lr60 : r6.length = 32) (lr70 : r7.length = 32) (lr110 : r11.1.length = 32) (lr140 : r14.1.length = 32) (lr170 : r17.1.length = 32) (lr200 : r20.1.length = 32) (lr230 : r23.1.length = 32) (lr260 : r26.1.length = 32) (lr290 : r29.1.length = 32) (lr330 : r33.1.length = 32) {r : Bool} (hQ0 : ∀ (e' : Env) (w' : World) (z0 : Bool), e' 7 = .pointer (some ⟨g8, 0, none⟩) → e' 10 = .pointer (some ⟨g12, 0, none⟩) → e' 12 = .pointer (some ⟨g15, 0, none⟩) → e' 14 = .pointer (some ⟨g18, 0, none⟩) → e' 18 = .pointer (some ⟨g24, 0, none⟩) → e' 22 = .pointer (some ⟨g30, 0, none⟩) → e' 24 = .pointer (some ⟨g34, 0, none⟩) → e' 110 = .bool z0 → Hp w0 Ws w' [⟨g1, 0, ints .u8 a0⟩, ⟨g2, 0, ints .u8 a1⟩, ⟨g3, 0, ints .u8 a2⟩, ⟨g8, 0, ints .u8 r5⟩, ⟨g9, 0, ints .u8 r6⟩, ⟨g10, 0, ints .u8 r7⟩, ⟨g12, 0, ints .u8 r11.1⟩, ⟨g15, 0, ints .u8 r14.1⟩, ⟨g18, 0, ints .u8 r17.1⟩, ⟨g21, 0, ints .u8 r20.1⟩, ⟨g24, 0, ints .u8 r23.1⟩, ⟨g27, 0, ints .u8 r26.1⟩, ⟨g30, 0, ints .u8 r29.1⟩, ⟨g34, 0, ints .u8 r33.1⟩] [] → r = (z0) → Q .normal e' w') (e : Env) (w : World) (s7_e : e 7 = .pointer (some ⟨g8, 0, none⟩)) (s10_e : e 10 = .pointer (some ⟨g12, 0, none⟩)) (s11_e : e 11 = .int .i64 x13) (s12_e : e 12 = .pointer (some ⟨g15, 0, none⟩)) (s13_e : e 13 = .int .i64 x16) (s14_e : e 14 = .pointer (some ⟨g18, 0, none⟩)) (s15_e : e 15 = .int .i64 x19) (s17_e : e 17 = .int .i64 x22) (s18_e : e 18 = .pointer (some ⟨g24, 0, none⟩)) (s19_e : e 19 = .int .i64 x25) (s21_e : e 21 = .int .i64 x28) (s22_e : e 22 = .pointer (some ⟨g30, 0, none⟩)) (s23_e : e 23 = .int .i64 x31) (s24_e : e 24 = .pointer (some ⟨g34, 0, none⟩)) (s25_e : e 25 = .int .i64 x35) (hp : Hp w0 Ws w [⟨g1, 0, ints .u8 a0⟩, ⟨g2, 0, ints .u8 a1⟩, ⟨g3, 0, ints .u8 a2⟩, ⟨g8, 0, ints .u8 r5⟩, ⟨g9, 0, ints .u8 r6⟩, ⟨g10, 0, ints .u8 r7⟩, ⟨g12, 0, ints .u8 r11.1⟩, ⟨g15, 0, ints .u8 r14.1⟩, ⟨g18, 0, ints .u8 r17.1⟩, ⟨g21, 0, ints .u8 r20.1⟩, ⟨g24, 0, ints .u8 r23.1⟩, ⟨g27, 0, ints .u8 r26.1⟩, ⟨g30, 0, ints .u8 r29.1⟩, ⟨g34, 0, ints .u8 r33.1⟩] []) (h : postilionlaw06_PointGroup.p1 x13 x16 x19 x22 x25 x28 x31 x35 = some r) : Wp Try.prog Try.f5.ntmps (at_ (fbody Try.f5) [1, 1, 1, 1, 1, 1, 1, 1, 1, 1, 1, 0, 0]) Q e w := by
  unfold postilionlaw06_PointGroup.p1 at h
  refine wregionT postilionlaw06_PointGroup.o13 (.tp 0 (.tp 1 (.tp 2 (.tp 3 (.tp 4 (.tp 5 (.tp 6 (.tp 7 (.tp 8 (.tp 9 (.tp 10 (.tp 11 (.tp 12 (.tp 13 (.tp 14 (.tp 15 (.tp 16 (.tp 17 (.tp 18 (.tp 19 (.tp 20 (.tp 21 (.tp 22 (.tp 23 (.tp 24 (.tp 25 (.tp 26 (.tp 27 (.tp 28 (.tp 29 (.done))))))))))))))))))))))))))))))) [] rfl rfl (by kernel_rfl) (by kernel_rfl) ?_
  refine k_move (v := .int .i64 x13) rfl s11_e ?_
  refine k_bin (X := .int .i64 x13) (Y := .int .i64 0) rfl rfl rfl rfl ?_
  rcases Bool.eq_false_or_eq_true (x13 != 0) with hb | hb
  · replace h := br_t hb h
    refine k_move (v := .bool true) rfl (Eq.trans (b := .bool (x13 != 0)) rfl (congrArg Value.bool hb)) ?_
    refine k_skip rfl ?_
    refine k_skip rfl ?_
    refine k_pick (b := true) (v := .bool true) rfl rfl rfl rfl rfl ?_
    refine k_move (v := .bool true) rfl rfl ?_
    refine k_skip rfl ?_
    refine k_skip rfl ?_
    refine k_pick (b := true) (v := .bool true) rfl rfl rfl rfl rfl ?_
    refine k_move (v := .bool true) rfl rfl ?_
    refine k_skip rfl ?_
    refine k_skip rfl ?_
    refine k_pick (b := true) (v := .bool true) rfl rfl rfl rfl rfl ?_
    refine k_move (v := .bool true) rfl rfl ?_
    refine k_skip rfl ?_
    refine k_skip rfl ?_
    refine k_pick (b := true) (v := .bool true) rfl rfl rfl rfl rfl ?_
    refine k_move (v := .bool true) rfl rfl ?_
    refine k_skip rfl ?_
    refine k_skip rfl ?_
    refine k_pick (b := true) (v := .bool true) rfl rfl rfl rfl rfl ?_
    refine k_move (v := .bool true) rfl rfl ?_
    refine k_skip rfl ?_
    refine k_skip rfl ?_
    refine k_pick (b := true) (v := .bool true) rfl rfl rfl rfl rfl ?_
    refine k_move (v := .bool true) rfl rfl ?_
    refine k_skip rfl ?_
    refine k_skip rfl ?_
    refine k_pick (b := true) (v := .bool true) rfl rfl rfl rfl rfl ?_
    refine k_end ?_; intro e276 qe276
    have s7_e276 : e276 7 = .pointer (some ⟨g8, 0, none⟩) := (congrFun qe276 7).trans s7_e
    have s10_e276 : e276 10 = .pointer (some ⟨g12, 0, none⟩) := (congrFun qe276 10).trans s10_e
    have s12_e276 : e276 12 = .pointer (some ⟨g15, 0, none⟩) := (congrFun qe276 12).trans s12_e
    have s14_e276 : e276 14 = .pointer (some ⟨g18, 0, none⟩) := (congrFun qe276 14).trans s14_e
    have s18_e276 : e276 18 = .pointer (some ⟨g24, 0, none⟩) := (congrFun qe276 18).trans s18_e
    have s22_e276 : e276 22 = .pointer (some ⟨g30, 0, none⟩) := (congrFun qe276 22).trans s22_e
    have s24_e276 : e276 24 = .pointer (some ⟨g34, 0, none⟩) := (congrFun qe276 24).trans s24_e
    have s110_e276 : e276 110 = .bool true := congrFun qe276 110
    clear qe276
    exact hQ0 _ _ true  s7_e276 s10_e276 s12_e276 s14_e276 s18_e276 s22_e276 s24_e276 s110_e276 (hp.drop (L' := [⟨g1, 0, ints .u8 a0⟩, ⟨g2, 0, ints .u8 a1⟩, ⟨g3, 0, ints .u8 a2⟩, ⟨g8, 0, ints .u8 r5⟩, ⟨g9, 0, ints .u8 r6⟩, ⟨g10, 0, ints .u8 r7⟩, ⟨g12, 0, ints .u8 r11.1⟩, ⟨g15, 0, ints .u8 r14.1⟩, ⟨g18, 0, ints .u8 r17.1⟩, ⟨g21, 0, ints .u8 r20.1⟩, ⟨g24, 0, ints .u8 r23.1⟩, ⟨g27, 0, ints .u8 r26.1⟩, ⟨g30, 0, ints .u8 r29.1⟩, ⟨g34, 0, ints .u8 r33.1⟩]) (List.Sublist.refl _)) (Option.some.inj h).symm
  · replace h := br_f hb h
    refine k_move (v := .bool false) rfl (Eq.trans (b := .bool (x13 != 0)) rfl (congrArg Value.bool hb)) ?_
    refine k_move (v := .int .i64 x16) rfl s13_e ?_
    refine k_bin (X := .int .i64 x16) (Y := .int .i64 0) rfl rfl rfl rfl ?_
    refine k_pick (b := false) (v := .bool (x16 != 0)) rfl rfl rfl rfl rfl ?_
    rcases Bool.eq_false_or_eq_true (x16 != 0) with hb | hb
    · replace h := br_t hb h
      refine k_move (v := .bool true) rfl (Eq.trans (b := .bool (x16 != 0)) rfl (congrArg Value.bool hb)) ?_
      refine k_skip rfl ?_
      refine k_skip rfl ?_
      refine k_pick (b := true) (v := .bool true) rfl rfl rfl rfl rfl ?_
      refine k_move (v := .bool true) rfl rfl ?_
      refine k_skip rfl ?_
      refine k_skip rfl ?_
      refine k_pick (b := true) (v := .bool true) rfl rfl rfl rfl rfl ?_
      refine k_move (v := .bool true) rfl rfl ?_
      refine k_skip rfl ?_
      refine k_skip rfl ?_
      refine k_pick (b := true) (v := .bool true) rfl rfl rfl rfl rfl ?_
      refine k_move (v := .bool true) rfl rfl ?_
      refine k_skip rfl ?_
      refine k_skip rfl ?_
      refine k_pick (b := true) (v := .bool true) rfl rfl rfl rfl rfl ?_
      refine k_move (v := .bool true) rfl rfl ?_
      refine k_skip rfl ?_
      refine k_skip rfl ?_
      refine k_pick (b := true) (v := .bool true) rfl rfl rfl rfl rfl ?_
      refine k_move (v := .bool true) rfl rfl ?_
      refine k_skip rfl ?_
      refine k_skip rfl ?_
      refine k_pick (b := true) (v := .bool true) rfl rfl rfl rfl rfl ?_
      refine k_end ?_; intro e277 qe277
      have s7_e277 : e277 7 = .pointer (some ⟨g8, 0, none⟩) := (congrFun qe277 7).trans s7_e
      have s10_e277 : e277 10 = .pointer (some ⟨g12, 0, none⟩) := (congrFun qe277 10).trans s10_e
      have s12_e277 : e277 12 = .pointer (some ⟨g15, 0, none⟩) := (congrFun qe277 12).trans s12_e
      have s14_e277 : e277 14 = .pointer (some ⟨g18, 0, none⟩) := (congrFun qe277 14).trans s14_e
      have s18_e277 : e277 18 = .pointer (some ⟨g24, 0, none⟩) := (congrFun qe277 18).trans s18_e
      have s22_e277 : e277 22 = .pointer (some ⟨g30, 0, none⟩) := (congrFun qe277 22).trans s22_e
      have s24_e277 : e277 24 = .pointer (some ⟨g34, 0, none⟩) := (congrFun qe277 24).trans s24_e
      have s110_e277 : e277 110 = .bool true := congrFun qe277 110
      clear qe277
      exact hQ0 _ _ true  s7_e277 s10_e277 s12_e277 s14_e277 s18_e277 s22_e277 s24_e277 s110_e277 (hp.drop (L' := [⟨g1, 0, ints .u8 a0⟩, ⟨g2, 0, ints .u8 a1⟩, ⟨g3, 0, ints .u8 a2⟩, ⟨g8, 0, ints .u8 r5⟩, ⟨g9, 0, ints .u8 r6⟩, ⟨g10, 0, ints .u8 r7⟩, ⟨g12, 0, ints .u8 r11.1⟩, ⟨g15, 0, ints .u8 r14.1⟩, ⟨g18, 0, ints .u8 r17.1⟩, ⟨g21, 0, ints .u8 r20.1⟩, ⟨g24, 0, ints .u8 r23.1⟩, ⟨g27, 0, ints .u8 r26.1⟩, ⟨g30, 0, ints .u8 r29.1⟩, ⟨g34, 0, ints .u8 r33.1⟩]) (List.Sublist.refl _)) (Option.some.inj h).symm
    · replace h := br_f hb h
      refine k_move (v := .bool false) rfl (Eq.trans (b := .bool (x16 != 0)) rfl (congrArg Value.bool hb)) ?_
      refine k_move (v := .int .i64 x19) rfl s15_e ?_
      refine k_bin (X := .int .i64 x19) (Y := .int .i64 0) rfl rfl rfl rfl ?_
      refine k_pick (b := false) (v := .bool (x19 != 0)) rfl rfl rfl rfl rfl ?_
      rcases Bool.eq_false_or_eq_true (x19 != 0) with hb | hb
      · replace h := br_t hb h
        refine k_move (v := .bool true) rfl (Eq.trans (b := .bool (x19 != 0)) rfl (congrArg Value.bool hb)) ?_
        refine k_skip rfl ?_
        refine k_skip rfl ?_
        refine k_pick (b := true) (v := .bool true) rfl rfl rfl rfl rfl ?_
        refine k_move (v := .bool true) rfl rfl ?_
        refine k_skip rfl ?_
        refine k_skip rfl ?_
        refine k_pick (b := true) (v := .bool true) rfl rfl rfl rfl rfl ?_
        refine k_move (v := .bool true) rfl rfl ?_
        refine k_skip rfl ?_
        refine k_skip rfl ?_
        refine k_pick (b := true) (v := .bool true) rfl rfl rfl rfl rfl ?_
        refine k_move (v := .bool true) rfl rfl ?_
        refine k_skip rfl ?_
        refine k_skip rfl ?_
        refine k_pick (b := true) (v := .bool true) rfl rfl rfl rfl rfl ?_
        refine k_move (v := .bool true) rfl rfl ?_
        refine k_skip rfl ?_
        refine k_skip rfl ?_
        refine k_pick (b := true) (v := .bool true) rfl rfl rfl rfl rfl ?_
        refine k_end ?_; intro e278 qe278
        have s7_e278 : e278 7 = .pointer (some ⟨g8, 0, none⟩) := (congrFun qe278 7).trans s7_e
        have s10_e278 : e278 10 = .pointer (some ⟨g12, 0, none⟩) := (congrFun qe278 10).trans s10_e
        have s12_e278 : e278 12 = .pointer (some ⟨g15, 0, none⟩) := (congrFun qe278 12).trans s12_e
        have s14_e278 : e278 14 = .pointer (some ⟨g18, 0, none⟩) := (congrFun qe278 14).trans s14_e
        have s18_e278 : e278 18 = .pointer (some ⟨g24, 0, none⟩) := (congrFun qe278 18).trans s18_e
        have s22_e278 : e278 22 = .pointer (some ⟨g30, 0, none⟩) := (congrFun qe278 22).trans s22_e
        have s24_e278 : e278 24 = .pointer (some ⟨g34, 0, none⟩) := (congrFun qe278 24).trans s24_e
        have s110_e278 : e278 110 = .bool true := congrFun qe278 110
        clear qe278
        exact hQ0 _ _ true  s7_e278 s10_e278 s12_e278 s14_e278 s18_e278 s22_e278 s24_e278 s110_e278 (hp.drop (L' := [⟨g1, 0, ints .u8 a0⟩, ⟨g2, 0, ints .u8 a1⟩, ⟨g3, 0, ints .u8 a2⟩, ⟨g8, 0, ints .u8 r5⟩, ⟨g9, 0, ints .u8 r6⟩, ⟨g10, 0, ints .u8 r7⟩, ⟨g12, 0, ints .u8 r11.1⟩, ⟨g15, 0, ints .u8 r14.1⟩, ⟨g18, 0, ints .u8 r17.1⟩, ⟨g21, 0, ints .u8 r20.1⟩, ⟨g24, 0, ints .u8 r23.1⟩, ⟨g27, 0, ints .u8 r26.1⟩, ⟨g30, 0, ints .u8 r29.1⟩, ⟨g34, 0, ints .u8 r33.1⟩]) (List.Sublist.refl _)) (Option.some.inj h).symm
      · replace h := br_f hb h
        refine k_move (v := .bool false) rfl (Eq.trans (b := .bool (x19 != 0)) rfl (congrArg Value.bool hb)) ?_
        refine k_move (v := .int .i64 x22) rfl s17_e ?_
        refine k_bin (X := .int .i64 x22) (Y := .int .i64 0) rfl rfl rfl rfl ?_
        refine k_pick (b := false) (v := .bool (x22 != 0)) rfl rfl rfl rfl rfl ?_
        rcases Bool.eq_false_or_eq_true (x22 != 0) with hb | hb
        · replace h := br_t hb h
          refine k_move (v := .bool true) rfl (Eq.trans (b := .bool (x22 != 0)) rfl (congrArg Value.bool hb)) ?_
          refine k_skip rfl ?_
          refine k_skip rfl ?_
          refine k_pick (b := true) (v := .bool true) rfl rfl rfl rfl rfl ?_
          refine k_move (v := .bool true) rfl rfl ?_
          refine k_skip rfl ?_
          refine k_skip rfl ?_
          refine k_pick (b := true) (v := .bool true) rfl rfl rfl rfl rfl ?_
          refine k_move (v := .bool true) rfl rfl ?_
          refine k_skip rfl ?_
          refine k_skip rfl ?_
          refine k_pick (b := true) (v := .bool true) rfl rfl rfl rfl rfl ?_
          refine k_move (v := .bool true) rfl rfl ?_
          refine k_skip rfl ?_
          refine k_skip rfl ?_
          refine k_pick (b := true) (v := .bool true) rfl rfl rfl rfl rfl ?_
          refine k_end ?_; intro e279 qe279
          have s7_e279 : e279 7 = .pointer (some ⟨g8, 0, none⟩) := (congrFun qe279 7).trans s7_e
          have s10_e279 : e279 10 = .pointer (some ⟨g12, 0, none⟩) := (congrFun qe279 10).trans s10_e
          have s12_e279 : e279 12 = .pointer (some ⟨g15, 0, none⟩) := (congrFun qe279 12).trans s12_e
          have s14_e279 : e279 14 = .pointer (some ⟨g18, 0, none⟩) := (congrFun qe279 14).trans s14_e
          have s18_e279 : e279 18 = .pointer (some ⟨g24, 0, none⟩) := (congrFun qe279 18).trans s18_e
          have s22_e279 : e279 22 = .pointer (some ⟨g30, 0, none⟩) := (congrFun qe279 22).trans s22_e
          have s24_e279 : e279 24 = .pointer (some ⟨g34, 0, none⟩) := (congrFun qe279 24).trans s24_e
          have s110_e279 : e279 110 = .bool true := congrFun qe279 110
          clear qe279
          exact hQ0 _ _ true  s7_e279 s10_e279 s12_e279 s14_e279 s18_e279 s22_e279 s24_e279 s110_e279 (hp.drop (L' := [⟨g1, 0, ints .u8 a0⟩, ⟨g2, 0, ints .u8 a1⟩, ⟨g3, 0, ints .u8 a2⟩, ⟨g8, 0, ints .u8 r5⟩, ⟨g9, 0, ints .u8 r6⟩, ⟨g10, 0, ints .u8 r7⟩, ⟨g12, 0, ints .u8 r11.1⟩, ⟨g15, 0, ints .u8 r14.1⟩, ⟨g18, 0, ints .u8 r17.1⟩, ⟨g21, 0, ints .u8 r20.1⟩, ⟨g24, 0, ints .u8 r23.1⟩, ⟨g27, 0, ints .u8 r26.1⟩, ⟨g30, 0, ints .u8 r29.1⟩, ⟨g34, 0, ints .u8 r33.1⟩]) (List.Sublist.refl _)) (Option.some.inj h).symm
        · replace h := br_f hb h
          refine k_move (v := .bool false) rfl (Eq.trans (b := .bool (x22 != 0)) rfl (congrArg Value.bool hb)) ?_
          refine k_move (v := .int .i64 x25) rfl s19_e ?_
          refine k_bin (X := .int .i64 x25) (Y := .int .i64 0) rfl rfl rfl rfl ?_
          refine k_pick (b := false) (v := .bool (x25 != 0)) rfl rfl rfl rfl rfl ?_
          rcases Bool.eq_false_or_eq_true (x25 != 0) with hb | hb
          · replace h := br_t hb h
            refine k_move (v := .bool true) rfl (Eq.trans (b := .bool (x25 != 0)) rfl (congrArg Value.bool hb)) ?_
            refine k_skip rfl ?_
            refine k_skip rfl ?_
            refine k_pick (b := true) (v := .bool true) rfl rfl rfl rfl rfl ?_
            refine k_move (v := .bool true) rfl rfl ?_
            refine k_skip rfl ?_
            refine k_skip rfl ?_
            refine k_pick (b := true) (v := .bool true) rfl rfl rfl rfl rfl ?_
            refine k_move (v := .bool true) rfl rfl ?_
            refine k_skip rfl ?_
            refine k_skip rfl ?_
            refine k_pick (b := true) (v := .bool true) rfl rfl rfl rfl rfl ?_
            refine k_end ?_; intro e280 qe280
            have s7_e280 : e280 7 = .pointer (some ⟨g8, 0, none⟩) := (congrFun qe280 7).trans s7_e
            have s10_e280 : e280 10 = .pointer (some ⟨g12, 0, none⟩) := (congrFun qe280 10).trans s10_e
            have s12_e280 : e280 12 = .pointer (some ⟨g15, 0, none⟩) := (congrFun qe280 12).trans s12_e
            have s14_e280 : e280 14 = .pointer (some ⟨g18, 0, none⟩) := (congrFun qe280 14).trans s14_e
            have s18_e280 : e280 18 = .pointer (some ⟨g24, 0, none⟩) := (congrFun qe280 18).trans s18_e
            have s22_e280 : e280 22 = .pointer (some ⟨g30, 0, none⟩) := (congrFun qe280 22).trans s22_e
            have s24_e280 : e280 24 = .pointer (some ⟨g34, 0, none⟩) := (congrFun qe280 24).trans s24_e
            have s110_e280 : e280 110 = .bool true := congrFun qe280 110
            clear qe280
            exact hQ0 _ _ true  s7_e280 s10_e280 s12_e280 s14_e280 s18_e280 s22_e280 s24_e280 s110_e280 (hp.drop (L' := [⟨g1, 0, ints .u8 a0⟩, ⟨g2, 0, ints .u8 a1⟩, ⟨g3, 0, ints .u8 a2⟩, ⟨g8, 0, ints .u8 r5⟩, ⟨g9, 0, ints .u8 r6⟩, ⟨g10, 0, ints .u8 r7⟩, ⟨g12, 0, ints .u8 r11.1⟩, ⟨g15, 0, ints .u8 r14.1⟩, ⟨g18, 0, ints .u8 r17.1⟩, ⟨g21, 0, ints .u8 r20.1⟩, ⟨g24, 0, ints .u8 r23.1⟩, ⟨g27, 0, ints .u8 r26.1⟩, ⟨g30, 0, ints .u8 r29.1⟩, ⟨g34, 0, ints .u8 r33.1⟩]) (List.Sublist.refl _)) (Option.some.inj h).symm
          · replace h := br_f hb h
            refine k_move (v := .bool false) rfl (Eq.trans (b := .bool (x25 != 0)) rfl (congrArg Value.bool hb)) ?_
            refine k_move (v := .int .i64 x28) rfl s21_e ?_
            refine k_bin (X := .int .i64 x28) (Y := .int .i64 0) rfl rfl rfl rfl ?_
            refine k_pick (b := false) (v := .bool (x28 != 0)) rfl rfl rfl rfl rfl ?_
            rcases Bool.eq_false_or_eq_true (x28 != 0) with hb | hb
            · replace h := br_t hb h
              refine k_move (v := .bool true) rfl (Eq.trans (b := .bool (x28 != 0)) rfl (congrArg Value.bool hb)) ?_
              refine k_skip rfl ?_
              refine k_skip rfl ?_
              refine k_pick (b := true) (v := .bool true) rfl rfl rfl rfl rfl ?_
              refine k_move (v := .bool true) rfl rfl ?_
              refine k_skip rfl ?_
              refine k_skip rfl ?_
              refine k_pick (b := true) (v := .bool true) rfl rfl rfl rfl rfl ?_
              refine k_end ?_; intro e281 qe281
              have s7_e281 : e281 7 = .pointer (some ⟨g8, 0, none⟩) := (congrFun qe281 7).trans s7_e
              have s10_e281 : e281 10 = .pointer (some ⟨g12, 0, none⟩) := (congrFun qe281 10).trans s10_e
              have s12_e281 : e281 12 = .pointer (some ⟨g15, 0, none⟩) := (congrFun qe281 12).trans s12_e
              have s14_e281 : e281 14 = .pointer (some ⟨g18, 0, none⟩) := (congrFun qe281 14).trans s14_e
              have s18_e281 : e281 18 = .pointer (some ⟨g24, 0, none⟩) := (congrFun qe281 18).trans s18_e
              have s22_e281 : e281 22 = .pointer (some ⟨g30, 0, none⟩) := (congrFun qe281 22).trans s22_e
              have s24_e281 : e281 24 = .pointer (some ⟨g34, 0, none⟩) := (congrFun qe281 24).trans s24_e
              have s110_e281 : e281 110 = .bool true := congrFun qe281 110
              clear qe281
              exact hQ0 _ _ true  s7_e281 s10_e281 s12_e281 s14_e281 s18_e281 s22_e281 s24_e281 s110_e281 (hp.drop (L' := [⟨g1, 0, ints .u8 a0⟩, ⟨g2, 0, ints .u8 a1⟩, ⟨g3, 0, ints .u8 a2⟩, ⟨g8, 0, ints .u8 r5⟩, ⟨g9, 0, ints .u8 r6⟩, ⟨g10, 0, ints .u8 r7⟩, ⟨g12, 0, ints .u8 r11.1⟩, ⟨g15, 0, ints .u8 r14.1⟩, ⟨g18, 0, ints .u8 r17.1⟩, ⟨g21, 0, ints .u8 r20.1⟩, ⟨g24, 0, ints .u8 r23.1⟩, ⟨g27, 0, ints .u8 r26.1⟩, ⟨g30, 0, ints .u8 r29.1⟩, ⟨g34, 0, ints .u8 r33.1⟩]) (List.Sublist.refl _)) (Option.some.inj h).symm
            · replace h := br_f hb h
              refine k_move (v := .bool false) rfl (Eq.trans (b := .bool (x28 != 0)) rfl (congrArg Value.bool hb)) ?_
              refine k_move (v := .int .i64 x31) rfl s23_e ?_
              refine k_bin (X := .int .i64 x31) (Y := .int .i64 0) rfl rfl rfl rfl ?_
              refine k_pick (b := false) (v := .bool (x31 != 0)) rfl rfl rfl rfl rfl ?_
              rcases Bool.eq_false_or_eq_true (x31 != 0) with hb | hb
              · replace h := br_t hb h
                refine k_move (v := .bool true) rfl (Eq.trans (b := .bool (x31 != 0)) rfl (congrArg Value.bool hb)) ?_
                refine k_skip rfl ?_
                refine k_skip rfl ?_
                refine k_pick (b := true) (v := .bool true) rfl rfl rfl rfl rfl ?_
                refine k_end ?_; intro e282 qe282
                have s7_e282 : e282 7 = .pointer (some ⟨g8, 0, none⟩) := (congrFun qe282 7).trans s7_e
                have s10_e282 : e282 10 = .pointer (some ⟨g12, 0, none⟩) := (congrFun qe282 10).trans s10_e
                have s12_e282 : e282 12 = .pointer (some ⟨g15, 0, none⟩) := (congrFun qe282 12).trans s12_e
                have s14_e282 : e282 14 = .pointer (some ⟨g18, 0, none⟩) := (congrFun qe282 14).trans s14_e
                have s18_e282 : e282 18 = .pointer (some ⟨g24, 0, none⟩) := (congrFun qe282 18).trans s18_e
                have s22_e282 : e282 22 = .pointer (some ⟨g30, 0, none⟩) := (congrFun qe282 22).trans s22_e
                have s24_e282 : e282 24 = .pointer (some ⟨g34, 0, none⟩) := (congrFun qe282 24).trans s24_e
                have s110_e282 : e282 110 = .bool true := congrFun qe282 110
                clear qe282
                exact hQ0 _ _ true  s7_e282 s10_e282 s12_e282 s14_e282 s18_e282 s22_e282 s24_e282 s110_e282 (hp.drop (L' := [⟨g1, 0, ints .u8 a0⟩, ⟨g2, 0, ints .u8 a1⟩, ⟨g3, 0, ints .u8 a2⟩, ⟨g8, 0, ints .u8 r5⟩, ⟨g9, 0, ints .u8 r6⟩, ⟨g10, 0, ints .u8 r7⟩, ⟨g12, 0, ints .u8 r11.1⟩, ⟨g15, 0, ints .u8 r14.1⟩, ⟨g18, 0, ints .u8 r17.1⟩, ⟨g21, 0, ints .u8 r20.1⟩, ⟨g24, 0, ints .u8 r23.1⟩, ⟨g27, 0, ints .u8 r26.1⟩, ⟨g30, 0, ints .u8 r29.1⟩, ⟨g34, 0, ints .u8 r33.1⟩]) (List.Sublist.refl _)) (Option.some.inj h).symm
              · replace h := br_f hb h
                refine k_move (v := .bool false) rfl (Eq.trans (b := .bool (x31 != 0)) rfl (congrArg Value.bool hb)) ?_
                refine k_move (v := .int .i64 x35) rfl s25_e ?_
                refine k_bin (X := .int .i64 x35) (Y := .int .i64 0) rfl rfl rfl rfl ?_
                refine k_pick (b := false) (v := .bool (x35 != 0)) rfl rfl rfl rfl rfl ?_
                refine k_end ?_; intro e283 qe283
                have s7_e283 : e283 7 = .pointer (some ⟨g8, 0, none⟩) := (congrFun qe283 7).trans s7_e
                have s10_e283 : e283 10 = .pointer (some ⟨g12, 0, none⟩) := (congrFun qe283 10).trans s10_e
                have s12_e283 : e283 12 = .pointer (some ⟨g15, 0, none⟩) := (congrFun qe283 12).trans s12_e
                have s14_e283 : e283 14 = .pointer (some ⟨g18, 0, none⟩) := (congrFun qe283 14).trans s14_e
                have s18_e283 : e283 18 = .pointer (some ⟨g24, 0, none⟩) := (congrFun qe283 18).trans s18_e
                have s22_e283 : e283 22 = .pointer (some ⟨g30, 0, none⟩) := (congrFun qe283 22).trans s22_e
                have s24_e283 : e283 24 = .pointer (some ⟨g34, 0, none⟩) := (congrFun qe283 24).trans s24_e
                have s110_e283 : e283 110 = .bool (x35 != 0) := congrFun qe283 110
                clear qe283
                exact hQ0 _ _ (x35 != 0)  s7_e283 s10_e283 s12_e283 s14_e283 s18_e283 s22_e283 s24_e283 s110_e283 (hp.drop (L' := [⟨g1, 0, ints .u8 a0⟩, ⟨g2, 0, ints .u8 a1⟩, ⟨g3, 0, ints .u8 a2⟩, ⟨g8, 0, ints .u8 r5⟩, ⟨g9, 0, ints .u8 r6⟩, ⟨g10, 0, ints .u8 r7⟩, ⟨g12, 0, ints .u8 r11.1⟩, ⟨g15, 0, ints .u8 r14.1⟩, ⟨g18, 0, ints .u8 r17.1⟩, ⟨g21, 0, ints .u8 r20.1⟩, ⟨g24, 0, ints .u8 r23.1⟩, ⟨g27, 0, ints .u8 r26.1⟩, ⟨g30, 0, ints .u8 r29.1⟩, ⟨g34, 0, ints .u8 r33.1⟩]) (List.Sublist.refl _)) (Option.some.inj h).symm
theorem postilionlaw06_PointGroup.p2_ok {w0 : World} {Ws : List Wr} {Q : Exit → Env → World → Prop} (g1 g10 g12 g15 g18 g2 g21 g24 g27 g3 g30 g34 g8 g9 : Nat) (a0 : List Int) (a1 : List Int) (a2 : List Int) (r5 : List Int) (r6 : List Int) (r7 : List Int) (r11 : List Int × Int) (r14 : List Int × Int) (r17 : List Int × Int) (r20 : List Int × Int) (r23 : List Int × Int) (r26 : List Int × Int) (r29 : List Int × Int) (r33 : List Int × Int) (la0 : a0.length = 32) (la1 : a1.length = 32) (la2 : a2.length = 32) (lr50 : r5.length = 32) (lr60 : r6.length = 32) (lr70 : r7.length = 32) (lr110 : r11.1.length = 32) (lr140 : r14.1.length = 32) (lr170 : r17.1.length = 32) (lr200 : r20.1.length = 32) (lr230 : r23.1.length = 32) (lr260 : r26.1.length = 32) (lr290 : r29.1.length = 32) (lr330 : r33.1.length = 32) {r : Bool} (hQ0 : ∀ (e' : Env) (w' : World) (z0 : Bool), e' 6 = .bool z0 → Hp w0 Ws w' [⟨g1, 0, ints .u8 a0⟩, ⟨g2, 0, ints .u8 a1⟩, ⟨g3, 0, ints .u8 a2⟩, ⟨g8, 0, ints .u8 r5⟩, ⟨g9, 0, ints .u8 r6⟩, ⟨g10, 0, ints .u8 r7⟩, ⟨g12, 0, ints .u8 r11.1⟩, ⟨g15, 0, ints .u8 r14.1⟩, ⟨g18, 0, ints .u8 r17.1⟩, ⟨g21, 0, ints .u8 r20.1⟩, ⟨g24, 0, ints .u8 r23.1⟩, ⟨g27, 0, ints .u8 r26.1⟩, ⟨g30, 0, ints .u8 r29.1⟩, ⟨g34, 0, ints .u8 r33.1⟩] [] → r = (z0) → Q .normal e' w') (e : Env) (w : World) (s7_e : e 7 = .pointer (some ⟨g8, 0, none⟩)) (s10_e : e 10 = .pointer (some ⟨g12, 0, none⟩)) (s12_e : e 12 = .pointer (some ⟨g15, 0, none⟩)) (s14_e : e 14 = .pointer (some ⟨g18, 0, none⟩)) (s18_e : e 18 = .pointer (some ⟨g24, 0, none⟩)) (s22_e : e 22 = .pointer (some ⟨g30, 0, none⟩)) (s24_e : e 24 = .pointer (some ⟨g34, 0, none⟩)) (hp : Hp w0 Ws w [⟨g1, 0, ints .u8 a0⟩, ⟨g2, 0, ints .u8 a1⟩, ⟨g3, 0, ints .u8 a2⟩, ⟨g8, 0, ints .u8 r5⟩, ⟨g9, 0, ints .u8 r6⟩, ⟨g10, 0, ints .u8 r7⟩, ⟨g12, 0, ints .u8 r11.1⟩, ⟨g15, 0, ints .u8 r14.1⟩, ⟨g18, 0, ints .u8 r17.1⟩, ⟨g21, 0, ints .u8 r20.1⟩, ⟨g24, 0, ints .u8 r23.1⟩, ⟨g27, 0, ints .u8 r26.1⟩, ⟨g30, 0, ints .u8 r29.1⟩, ⟨g34, 0, ints .u8 r33.1⟩] []) (h : postilionlaw06_PointGroup.p2 r5 r11 r14 r17 r23 r29 r33 = some r) : Wp Try.prog Try.f5.ntmps (at_ (fbody Try.f5) [1, 1, 1, 1, 1, 1, 1, 1, 1, 1, 1, 1, 0]) Q e w := by
  unfold postilionlaw06_PointGroup.p2 at h
  refine wregionM postilionlaw06_PointGroup.o15 (.tk 0 (.tk 1 (.tp 2 (.tp 3 (.tk 4 (.tk 5 (.tp 6 (.tp 7 (.tp 8 (.tk 9 (.ef 10 (.tp 11 (.tp 12 (.tp 13 (.tk 14 (.tk 15 (.tp 16 (.tp 17 (.tp 18 (.done)))))))))))))))))))) [] [(0, 0, 0), (0, 0, 0), (3, 3, 524287), (4, 4, 524287), (8, 8, 0), (8, 8, 0), (56, 56, 524287), (72, 72, 524287), (136, 128, 524287), (256, 256, 0), (256, 524287, 524287), (1792, 1792, 524287), (2304, 2304, 524287), (5120, 4096, 524287), (8192, 8192, 0), (8192, 8192, 0), (57344, 57344, 524287), (73728, 73728, 524287), (262143, 131072, 524287)] rfl rfl (by kernel_rfl) (by kernel_rfl) (Nat.le_of_ble_eq_true (by kernel_rfl)) (by kernel_rfl) (by kernel_rfl) (by kernel_rfl) ?_
  have hp := hp.drew
  refine k_loadA (n := 32) (xs := ints .u8 r11.1) 0 rfl (by kernel_rfl) (by kernel_rfl) s10_e (hp.get (j := 6) rfl) rfl rfl ((ints_length _ _).trans lr110) (fun m v hm => by rw [Nat.zero_add]; exact hm) ?_
  refine k_loadA (n := 32) (xs := ints .u8 r14.1) 0 rfl (by kernel_rfl) (by kernel_rfl) s12_e (hp.get (j := 7) rfl) rfl rfl ((ints_length _ _).trans lr140) (fun m v hm => by rw [Nat.zero_add]; exact hm) ?_
  refine k_eqI (k := .u8) (l := r11.1) (l' := r14.1) rfl Try.underlying22 Try.underlying5 (by kernel_rfl) (by kernel_rfl) rfl rfl lr110 lr140 ?_
  rcases Bool.eq_false_or_eq_true (r11.1 == r14.1) with hb | hb
  · replace h := br_t hb h
    refine k_move (v := .bool true) rfl (Eq.trans (b := .bool (r11.1 == r14.1)) rfl (congrArg Value.bool hb)) ?_
    refine k_loadA (n := 32) (xs := ints .u8 r17.1) 0 rfl (by kernel_rfl) (by kernel_rfl) s14_e (hp.get (j := 8) rfl) rfl rfl ((ints_length _ _).trans lr170) (fun m v hm => by rw [Nat.zero_add]; exact hm) ?_
    refine k_loadA (n := 32) (xs := ints .u8 r23.1) 0 rfl (by kernel_rfl) (by kernel_rfl) s18_e (hp.get (j := 10) rfl) rfl rfl ((ints_length _ _).trans lr230) (fun m v hm => by rw [Nat.zero_add]; exact hm) ?_
    refine k_eqI (k := .u8) (l := r17.1) (l' := r23.1) rfl Try.underlying22 Try.underlying5 (by kernel_rfl) (by kernel_rfl) rfl rfl lr170 lr230 ?_
    refine k_pick (b := true) (v := .bool (r17.1 == r23.1)) rfl rfl rfl rfl rfl ?_
    rcases Bool.eq_false_or_eq_true (r17.1 == r23.1) with hb | hb
    · replace h := br_t hb h
      refine k_move (v := .bool true) rfl (Eq.trans (b := .bool (r17.1 == r23.1)) rfl (congrArg Value.bool hb)) ?_
      refine k_loadA (n := 32) (xs := ints .u8 r29.1) 0 rfl (by kernel_rfl) (by kernel_rfl) s22_e (hp.get (j := 12) rfl) rfl rfl ((ints_length _ _).trans lr290) (fun m v hm => by rw [Nat.zero_add]; exact hm) ?_
      obtain ⟨r38, qr38, h⟩ := bd_e h
      refine k_call [] rfl (by kernel_rfl) (args0 ) (point_Zero_ok   _ (hp.toR (fun _ h => by cases h)) qr38) ?_
      rintro _ w' ⟨_, rfl, rfl, lr380, hpc⟩
      refine ⟨_, rfl, .inr (.of_below hpc.chg.to_below), ?_⟩; have hp := hp.below hpc.chg.to_below; clear hpc
      refine k_eqI (k := .u8) (l := r29.1) (l' := r38) rfl Try.underlying22 Try.underlying5 (by kernel_rfl) (by kernel_rfl) rfl rfl lr290 lr380 ?_
      refine k_pick (b := true) (v := .bool (r29.1 == r38)) rfl rfl rfl rfl rfl ?_
      rcases Bool.eq_false_or_eq_true (r29.1 == r38) with hb | hb
      · replace h := br_t hb h
        refine k_move (v := .bool true) rfl (Eq.trans (b := .bool (r29.1 == r38)) rfl (congrArg Value.bool hb)) ?_
        refine k_loadA (n := 32) (xs := ints .u8 r33.1) 0 rfl (by kernel_rfl) (by kernel_rfl) s24_e (hp.get (j := 13) rfl) rfl rfl ((ints_length _ _).trans lr330) (fun m v hm => by rw [Nat.zero_add]; exact hm) ?_
        refine k_loadA (n := 32) (xs := ints .u8 r5) 0 rfl (by kernel_rfl) (by kernel_rfl) s7_e (hp.get (j := 3) rfl) rfl rfl ((ints_length _ _).trans lr50) (fun m v hm => by rw [Nat.zero_add]; exact hm) ?_
        refine k_eqI (k := .u8) (l := r33.1) (l' := r5) rfl Try.underlying22 Try.underlying5 (by kernel_rfl) (by kernel_rfl) rfl rfl lr330 lr50 ?_
        refine k_pick (b := true) (v := .bool (r33.1 == r5)) rfl rfl rfl rfl rfl ?_
        refine k_assign (v := .bool (r33.1 == r5)) rfl rfl ?_
        refine k_end ?_; intro e286 qe286
        have s6_e286 : e286 6 = .bool (r33.1 == r5) := congrFun qe286 6
        clear qe286
        exact hQ0 _ _ (r33.1 == r5)  s6_e286 (hp.drop (L' := [⟨g1, 0, ints .u8 a0⟩, ⟨g2, 0, ints .u8 a1⟩, ⟨g3, 0, ints .u8 a2⟩, ⟨g8, 0, ints .u8 r5⟩, ⟨g9, 0, ints .u8 r6⟩, ⟨g10, 0, ints .u8 r7⟩, ⟨g12, 0, ints .u8 r11.1⟩, ⟨g15, 0, ints .u8 r14.1⟩, ⟨g18, 0, ints .u8 r17.1⟩, ⟨g21, 0, ints .u8 r20.1⟩, ⟨g24, 0, ints .u8 r23.1⟩, ⟨g27, 0, ints .u8 r26.1⟩, ⟨g30, 0, ints .u8 r29.1⟩, ⟨g34, 0, ints .u8 r33.1⟩]) (List.Sublist.refl _)) (Option.some.inj h).symm
      · replace h := br_f hb h
        refine k_move (v := .bool false) rfl (Eq.trans (b := .bool (r29.1 == r38)) rfl (congrArg Value.bool hb)) ?_
        refine k_skip_tk rfl ?_
        refine k_skip_tk rfl ?_
        refine k_skip rfl ?_
        refine k_pick (b := false) (v := .bool false) rfl rfl rfl rfl rfl ?_
        refine k_assign (v := .bool false) rfl rfl ?_
        refine k_end ?_; intro e287 qe287
        have s6_e287 : e287 6 = .bool false := congrFun qe287 6
        clear qe287
        exact hQ0 _ _ false  s6_e287 (hp.drop (L' := [⟨g1, 0, ints .u8 a0⟩, ⟨g2, 0, ints .u8 a1⟩, ⟨g3, 0, ints .u8 a2⟩, ⟨g8, 0, ints .u8 r5⟩, ⟨g9, 0, ints .u8 r6⟩, ⟨g10, 0, ints .u8 r7⟩, ⟨g12, 0, ints .u8 r11.1⟩, ⟨g15, 0, ints .u8 r14.1⟩, ⟨g18, 0, ints .u8 r17.1⟩, ⟨g21, 0, ints .u8 r20.1⟩, ⟨g24, 0, ints .u8 r23.1⟩, ⟨g27, 0, ints .u8 r26.1⟩, ⟨g30, 0, ints .u8 r29.1⟩, ⟨g34, 0, ints .u8 r33.1⟩]) (List.Sublist.refl _)) (Option.some.inj h).symm
    · replace h := br_f hb h
      refine k_move (v := .bool false) rfl (Eq.trans (b := .bool (r17.1 == r23.1)) rfl (congrArg Value.bool hb)) ?_
      refine k_skip_tk rfl ?_
      refine k_skip_ef rfl ?_
      refine k_skip rfl ?_
      refine k_pick (b := false) (v := .bool false) rfl rfl rfl rfl rfl ?_
      refine k_move (v := .bool false) rfl rfl ?_
      refine k_skip_tk rfl ?_
      refine k_skip_tk rfl ?_
      refine k_skip rfl ?_
      refine k_pick (b := false) (v := .bool false) rfl rfl rfl rfl rfl ?_
      refine k_assign (v := .bool false) rfl rfl ?_
      refine k_end ?_; intro e288 qe288
      have s6_e288 : e288 6 = .bool false := congrFun qe288 6
      clear qe288
      exact hQ0 _ _ false  s6_e288 (hp.drop (L' := [⟨g1, 0, ints .u8 a0⟩, ⟨g2, 0, ints .u8 a1⟩, ⟨g3, 0, ints .u8 a2⟩, ⟨g8, 0, ints .u8 r5⟩, ⟨g9, 0, ints .u8 r6⟩, ⟨g10, 0, ints .u8 r7⟩, ⟨g12, 0, ints .u8 r11.1⟩, ⟨g15, 0, ints .u8 r14.1⟩, ⟨g18, 0, ints .u8 r17.1⟩, ⟨g21, 0, ints .u8 r20.1⟩, ⟨g24, 0, ints .u8 r23.1⟩, ⟨g27, 0, ints .u8 r26.1⟩, ⟨g30, 0, ints .u8 r29.1⟩, ⟨g34, 0, ints .u8 r33.1⟩]) (List.Sublist.refl _)) (Option.some.inj h).symm
  · replace h := br_f hb h
    refine k_move (v := .bool false) rfl (Eq.trans (b := .bool (r11.1 == r14.1)) rfl (congrArg Value.bool hb)) ?_
    refine k_skip_tk rfl ?_
    refine k_skip_tk rfl ?_
    refine k_skip rfl ?_
    refine k_pick (b := false) (v := .bool false) rfl rfl rfl rfl rfl ?_
    refine k_move (v := .bool false) rfl rfl ?_
    refine k_skip_tk rfl ?_
    refine k_skip_ef rfl ?_
    refine k_skip rfl ?_
    refine k_pick (b := false) (v := .bool false) rfl rfl rfl rfl rfl ?_
    refine k_move (v := .bool false) rfl rfl ?_
    refine k_skip_tk rfl ?_
    refine k_skip_tk rfl ?_
    refine k_skip rfl ?_
    refine k_pick (b := false) (v := .bool false) rfl rfl rfl rfl rfl ?_
    refine k_assign (v := .bool false) rfl rfl ?_
    refine k_end ?_; intro e289 qe289
    have s6_e289 : e289 6 = .bool false := congrFun qe289 6
    clear qe289
    exact hQ0 _ _ false  s6_e289 (hp.drop (L' := [⟨g1, 0, ints .u8 a0⟩, ⟨g2, 0, ints .u8 a1⟩, ⟨g3, 0, ints .u8 a2⟩, ⟨g8, 0, ints .u8 r5⟩, ⟨g9, 0, ints .u8 r6⟩, ⟨g10, 0, ints .u8 r7⟩, ⟨g12, 0, ints .u8 r11.1⟩, ⟨g15, 0, ints .u8 r14.1⟩, ⟨g18, 0, ints .u8 r17.1⟩, ⟨g21, 0, ints .u8 r20.1⟩, ⟨g24, 0, ints .u8 r23.1⟩, ⟨g27, 0, ints .u8 r26.1⟩, ⟨g30, 0, ints .u8 r29.1⟩, ⟨g34, 0, ints .u8 r33.1⟩]) (List.Sublist.refl _)) (Option.some.inj h).symm
set_option maxHeartbeats 4000000 in
theorem postilionlaw06_PointGroup_ok (k : Nat) (a0 : List Int) (a1 : List Int) (a2 : List Int) (la0 : a0.length = 32) (la1 : a1.length = 32) (la2 : a2.length = 32) (w0 : World) (hp : Hp w0 [] w0 [] []) {r : Bool} (h : postilionlaw06_PointGroup.f k a0 a1 a2 = some r) :
    Calls Try.prog 5 [.agg (ints .u8 a0).toArray, .agg (ints .u8 a1).toArray, .agg (ints .u8 a2).toArray].toArray w0 fun x w' => ∃ v, x = .returned v ∧ v = .bool r ∧ Hp w0 [] w' [] [] := by
  refine calls_inP Try.func5 rfl (Nat.le_of_ble_eq_true (by kernel_rfl)) (by kernel_rfl) ?_
  intro e0 qe0
  have s0_e0 : e0 0 = .agg (ints .u8 a0).toArray := congrFun qe0 0
  have s1_e0 : e0 1 = .agg (ints .u8 a1).toArray := congrFun qe0 1
  have s2_e0 : e0 2 = .agg (ints .u8 a2).toArray := congrFun qe0 2
  clear qe0
  unfold postilionlaw06_PointGroup.f at h
  refine wseqP (p0 := [0]) (p1 := [1]) rfl rfl rfl ?_
  refine wregionT postilionlaw06_PointGroup.o1 (.ef 0 (.ef 1 (.ef 2 (.tp 3 (.done))))) [] rfl rfl (by kernel_rfl) (by kernel_rfl) ?_
  refine k_box (v := .agg (ints .u8 a0).toArray) (ints .u8 a0) rfl s0_e0 rfl hp ?_
  intro g1 w hbg1 hp
  refine k_box (v := .agg (ints .u8 a1).toArray) (ints .u8 a1) rfl s1_e0 rfl hp ?_
  intro g2 w hbg2 hp
  refine k_box (v := .agg (ints .u8 a2).toArray) (ints .u8 a2) rfl s2_e0 rfl hp ?_
  intro g3 w hbg3 hp
  refine k_assign (v := .bool false) rfl rfl ?_
  refine k_end ?_; intro e264 qe264
  have s3_e264 : e264 3 = .pointer (some ⟨g1, 0, none⟩) := congrFun qe264 3
  have s4_e264 : e264 4 = .pointer (some ⟨g2, 0, none⟩) := congrFun qe264 4
  have s5_e264 : e264 5 = .pointer (some ⟨g3, 0, none⟩) := congrFun qe264 5
  clear qe264
  refine wseqP (p0 := [1, 0]) (p1 := [1, 1]) rfl rfl rfl ?_
  refine wseqP (p0 := [1, 0, 0]) (p1 := [1, 0, 1]) rfl rfl rfl ?_
  refine wregionT postilionlaw06_PointGroup.o2 (.ef 0 (.tp 1 (.done))) [] rfl rfl (by kernel_rfl) (by kernel_rfl) ?_
  obtain ⟨r4, qr4, h⟩ := bd_e h
  refine k_call [] rfl (by kernel_rfl) (args0 ) (postilionlaw06_awake_ok k   _ (hp.toR (fun _ h => by cases h)) qr4) ?_
  rintro _ w' ⟨_, rfl, rfl, hpc⟩
  refine ⟨_, rfl, .inr (.of_below hpc.chg.to_below), ?_⟩; have hp := hp.below hpc.chg.to_below; clear hpc
  refine k_not (b := r4) rfl rfl ?_
  refine k_end ?_; intro e265 qe265
  have s3_e265 : e265 3 = .pointer (some ⟨g1, 0, none⟩) := (congrFun qe265 3).trans s3_e264
  have s4_e265 : e265 4 = .pointer (some ⟨g2, 0, none⟩) := (congrFun qe265 4).trans s4_e264
  have s5_e265 : e265 5 = .pointer (some ⟨g3, 0, none⟩) := (congrFun qe265 5).trans s5_e264
  have s27_e265 : e265 27 = .bool (!r4) := congrFun qe265 27
  clear qe265
  refine wcondP (p0 := [1, 0, 1, 0]) (p1 := [1, 0, 1, 1]) (t := (!r4)) rfl rfl rfl (by decide) s27_e265 (fun hb => ?_) (fun hb => ?_)
  · replace h := br_t hb h
    refine wseqP (p0 := [1, 0, 1, 0, 0]) (p1 := [1, 0, 1, 0, 1]) rfl rfl rfl ?_
    refine wregionT postilionlaw06_PointGroup.o3 (.tp 0 (.done)) [] rfl rfl (by kernel_rfl) (by kernel_rfl) ?_
    refine k_assign (v := .bool false) rfl rfl ?_
    refine k_end ?_; intro e266 qe266
    have s6_e266 : e266 6 = .bool false := congrFun qe266 6
    clear qe266
    refine wret rfl ?_
    have hr : r = false := (Option.some.inj h).symm
    show RetP _ _ _ _ _
    rw [hr]
    exact ret_i [.bool false] (res_tmp s6_e266 res_nil) ⟨rfl, hp.none⟩
  · replace h := br_f hb h
    refine wskip rfl ?_
    refine wseqP (p0 := [1, 1, 0]) (p1 := [1, 1, 1]) rfl rfl rfl ?_
    obtain ⟨r5, qr5, h⟩ := bd_e h
    obtain ⟨r6, qr6, h⟩ := bd_e h
    obtain ⟨r7, qr7, h⟩ := bd_e h
    refine wcut (fun e267 w2 => ∃ g8 g9 g10 : Nat, (((r5.length = 32 ∧ r6.length = 32) ∧ r7.length = 32) ∧ ((e267 7 = .pointer (some ⟨g8, 0, none⟩) ∧ e267 8 = .pointer (some ⟨g9, 0, none⟩)) ∧ e267 9 = .pointer (some ⟨g10, 0, none⟩))) ∧ Hp w0 [] w2 [⟨g1, 0, ints .u8 a0⟩, ⟨g2, 0, ints .u8 a1⟩, ⟨g3, 0, ints .u8 a2⟩, ⟨g8, 0, ints .u8 r5⟩, ⟨g9, 0, ints .u8 r6⟩, ⟨g10, 0, ints .u8 r7⟩] []) ?_ ?_
    rotate_left
    · refine wregionM postilionlaw06_PointGroup.o4 (.tk 0 (.rest 1 11)) [9, 10, 11] [(0, 0, 0), (1, 4095, 4095), (0, 4095, 4095), (6, 4095, 4095), (0, 4095, 4095), (24, 4095, 4095), (0, 4095, 4095), (0, 4095, 4095), (0, 4095, 4095), (483, 4095, 4095), (975, 4095, 4095), (2047, 4095, 4095)] rfl rfl (by kernel_rfl) (by kernel_rfl) (Nat.le_of_ble_eq_true (by kernel_rfl)) (by kernel_rfl) (by kernel_rfl) (by kernel_rfl) ?_
      have hp := hp.drew
      refine k_loadA (n := 32) (xs := ints .u8 a0) 0 rfl (by kernel_rfl) (by kernel_rfl) s3_e265 (hp.get (j := 0) rfl) rfl rfl ((ints_length _ _).trans la0) (fun m v hm => by rw [Nat.zero_add]; exact hm) ?_
      refine k_rest [1, 2, 3, 4, 5, 6, 7, 8, 9, 10, 11] (fun L e w => ∃ g8 g9 g10 : Nat, ∃ c_g8_0 c_g9_1 c_g10_2 : List Int, ((((((L 1 = true → r5.length = 32) ∧ (L 3 = true → r6.length = 32)) ∧ (L 5 = true → r7.length = 32)) ∧ ((((e 4 = .pointer (some ⟨g2, 0, none⟩) ∧ e 5 = .pointer (some ⟨g3, 0, none⟩)) ∧ e 28 = .agg (ints .u8 a0).toArray) ∧ (L 1 = true → e 29 = .agg (ints .u8 r5).toArray)) ∧ (L 2 = true → e 30 = .agg (ints .u8 a1).toArray))) ∧ ((((L 3 = true → e 31 = .agg (ints .u8 r6).toArray) ∧ (L 4 = true → e 32 = .agg (ints .u8 a2).toArray)) ∧ (L 5 = true → e 33 = .agg (ints .u8 r7).toArray)) ∧ ((L 6 = true → e 7 = .pointer (some ⟨g8, 0, none⟩)) ∧ (L 7 = true → e 8 = .pointer (some ⟨g9, 0, none⟩))))) ∧ (((((L 8 = true → e 9 = .pointer (some ⟨g10, 0, none⟩)) ∧ (L 6 = false → c_g8_0 = ([] : List Int))) ∧ (L 9 = false → L 6 = true → c_g8_0 = (List.replicate 32 (0 : Int)))) ∧ ((L 9 = true → c_g8_0 = r5) ∧ (L 7 = false → c_g9_1 = ([] : List Int)))) ∧ ((((L 10 = false → L 7 = true → c_g9_1 = (List.replicate 32 (0 : Int))) ∧ (L 10 = true → c_g9_1 = r6)) ∧ (L 8 = false → c_g10_2 = ([] : List Int))) ∧ ((L 11 = false → L 8 = true → c_g10_2 = (List.replicate 32 (0 : Int))) ∧ (L 11 = true → c_g10_2 = r7))))) ∧ Hp w0 [] w [⟨g1, 0, ints .u8 a0⟩, ⟨g2, 0, ints .u8 a1⟩, ⟨g3, 0, ints .u8 a2⟩, ⟨g8, 0, ints .u8 c_g8_0⟩, ⟨g9, 0, ints .u8 c_g9_1⟩, ⟨g10, 0, ints .u8 c_g10_2⟩] []) (by kernel_rfl) (by kernel_rfl) ?_ ?_ ?_
      have hp := hp.free1 0 0
      have hp := hp.free1 0 0
      have hp := hp.free1 0 0
      · exact ⟨0, 0, 0, ([] : List Int), ([] : List Int), ([] : List Int), ⟨⟨⟨⟨⟨(fun h => absurd h (by decide)), (fun h => absurd h (by decide))⟩, (fun h => absurd h (by decide))⟩, ⟨⟨⟨⟨s4_e265, s5_e265⟩, rfl⟩, (fun h => absurd h (by decide))⟩, (fun h => absurd h (by decide))⟩⟩, ⟨⟨⟨(fun h => absurd h (by decide)), (fun h => absurd h (by decide))⟩, (fun h => absurd h (by decide))⟩, ⟨(fun h => absurd h (by decide)), (fun h => absurd h (by decide))⟩⟩⟩, ⟨⟨⟨⟨(fun h => absurd h (by decide)), (fun _ => rfl)⟩, (fun _ h => absurd h (by decide))⟩, ⟨(fun h => absurd h (by decide)), (fun _ => rfl)⟩⟩, ⟨⟨⟨(fun _ h => absurd h (by decide)), (fun h => absurd h (by decide))⟩, (fun _ => rfl)⟩, ⟨(fun _ h => absurd h (by decide)), (fun h => absurd h (by decide))⟩⟩⟩⟩, hp⟩
      · rintro L e w hall ⟨g8, g9, g10, c_g8_0, c_g9_1, c_g10_2, hF, hp⟩
        have qc_g8_0 := hF.2.1.2.1 (hall 9 rfl)
        rw [qc_g8_0] at hp
        have qc_g9_1 := hF.2.2.1.1.2 (hall 10 rfl)
        rw [qc_g9_1] at hp
        have qc_g10_2 := hF.2.2.2.2 (hall 11 rfl)
        rw [qc_g10_2] at hp
        exact onlyN_i ⟨g8, g9, g10, ⟨⟨⟨(hF.1.1.1.1.1 (hall 1 rfl)), (hF.1.1.1.1.2 (hall 3 rfl))⟩, (hF.1.1.1.2 (hall 5 rfl))⟩, ⟨⟨(hF.1.2.2.1 (hall 6 rfl)), (hF.1.2.2.2 (hall 7 rfl))⟩, (hF.2.1.1.1.1 (hall 8 rfl))⟩⟩, hp⟩
      refine allU_cons ?_ ?_
      · rintro L e w hLi hb hcl ⟨g8, g9, g10, c_g8_0, c_g9_1, c_g10_2, hF, hp⟩
        refine k_call [.agg (ints .u8 a0).toArray] rfl (by kernel_rfl) (args1 hF.1.1.2.1.1.2) (point_Base_ok k a0 la0 _ (hp.toR (fun _ h => by cases h)) qr5) ?_
        rintro _ w' ⟨_, rfl, rfl, lr50, hpc⟩
        refine ⟨_, rfl, .inr (.of_below hpc.chg.to_below), ?_⟩; have hp := hp.below hpc.chg.to_below; clear hpc
        exact k_done ⟨g8, g9, g10, c_g8_0, c_g9_1, c_g10_2, ⟨⟨⟨⟨⟨(fun _ => lr50), hF.1.1.1.1.2⟩, hF.1.1.1.2⟩, ⟨⟨hF.1.1.2.1.1, (fun _ => rfl)⟩, hF.1.1.2.2⟩⟩, hF.1.2⟩, hF.2⟩, hp⟩
      refine allU_cons ?_ ?_
      · rintro L e w hLi hb hcl ⟨g8, g9, g10, c_g8_0, c_g9_1, c_g10_2, hF, hp⟩
        refine tk_ef ?_
        refine k_loadA (n := 32) (xs := ints .u8 a1) 0 rfl (by kernel_rfl) (by kernel_rfl) hF.1.1.2.1.1.1.1 (hp.get (j := 1) rfl) rfl rfl ((ints_length _ _).trans la1) (fun m v hm => by rw [Nat.zero_add]; exact hm) ?_
        exact k_done ⟨g8, g9, g10, c_g8_0, c_g9_1, c_g10_2, ⟨⟨⟨hF.1.1.1, ⟨hF.1.1.2.1, (fun _ => rfl)⟩⟩, hF.1.2⟩, hF.2⟩, hp⟩
      refine allU_cons ?_ ?_
      · rintro L e w hLi hb hcl ⟨g8, g9, g10, c_g8_0, c_g9_1, c_g10_2, hF, hp⟩
        have hL2 := hb 2 (by kernel_rfl)
        refine k_call [.agg (ints .u8 a1).toArray] rfl (by kernel_rfl) (args1 (hF.1.1.2.2 hL2)) (point_Base_ok k a1 la1 _ (hp.toR (fun _ h => by cases h)) qr6) ?_
        rintro _ w' ⟨_, rfl, rfl, lr60, hpc⟩
        refine ⟨_, rfl, .inr (.of_below hpc.chg.to_below), ?_⟩; have hp := hp.below hpc.chg.to_below; clear hpc
        exact k_done ⟨g8, g9, g10, c_g8_0, c_g9_1, c_g10_2, ⟨⟨⟨⟨⟨hF.1.1.1.1.1, (fun _ => lr60)⟩, hF.1.1.1.2⟩, hF.1.1.2⟩, ⟨⟨⟨(fun _ => rfl), hF.1.2.1.1.2⟩, hF.1.2.1.2⟩, hF.1.2.2⟩⟩, hF.2⟩, hp⟩
      refine allU_cons ?_ ?_
      · rintro L e w hLi hb hcl ⟨g8, g9, g10, c_g8_0, c_g9_1, c_g10_2, hF, hp⟩
        refine tk_ef ?_
        refine k_loadA (n := 32) (xs := ints .u8 a2) 0 rfl (by kernel_rfl) (by kernel_rfl) hF.1.1.2.1.1.1.2 (hp.get (j := 2) rfl) rfl rfl ((ints_length _ _).trans la2) (fun m v hm => by rw [Nat.zero_add]; exact hm) ?_
        exact k_done ⟨g8, g9, g10, c_g8_0, c_g9_1, c_g10_2, ⟨⟨hF.1.1, ⟨⟨⟨hF.1.2.1.1.1, (fun _ => rfl)⟩, hF.1.2.1.2⟩, hF.1.2.2⟩⟩, hF.2⟩, hp⟩
      refine allU_cons ?_ ?_
      · rintro L e w hLi hb hcl ⟨g8, g9, g10, c_g8_0, c_g9_1, c_g10_2, hF, hp⟩
        have hL4 := hb 4 (by kernel_rfl)
        refine k_call [.agg (ints .u8 a2).toArray] rfl (by kernel_rfl) (args1 (hF.1.2.1.1.2 hL4)) (point_Base_ok k a2 la2 _ (hp.toR (fun _ h => by cases h)) qr7) ?_
        rintro _ w' ⟨_, rfl, rfl, lr70, hpc⟩
        refine ⟨_, rfl, .inr (.of_below hpc.chg.to_below), ?_⟩; have hp := hp.below hpc.chg.to_below; clear hpc
        exact k_done ⟨g8, g9, g10, c_g8_0, c_g9_1, c_g10_2, ⟨⟨⟨⟨hF.1.1.1.1, (fun _ => lr70)⟩, hF.1.1.2⟩, ⟨⟨hF.1.2.1.1, (fun _ => rfl)⟩, hF.1.2.2⟩⟩, hF.2⟩, hp⟩
      refine allU_cons ?_ ?_
      · rintro L e w hLi hb hcl ⟨g8, g9, g10, c_g8_0, c_g9_1, c_g10_2, hF, hp⟩
        have qc_g8_0 := hF.2.1.1.1.2 hLi
        rw [qc_g8_0] at hp
        refine k_allocAt 3 (ints .u8 (List.replicate 32 (0 : Int))) rfl (by kernel_rfl) hp ?_
        intro g8 w hbg8 hp
        exact k_done ⟨g8, g9, g10, (List.replicate 32 (0 : Int)), c_g9_1, c_g10_2, ⟨⟨hF.1.1, ⟨hF.1.2.1, ⟨(fun _ => rfl), hF.1.2.2.2⟩⟩⟩, ⟨⟨⟨⟨hF.2.1.1.1.1, (fun h => nomatch (show true = false from h))⟩, (fun _ _ => rfl)⟩, ⟨(fun h => absurd (hLi.symm.trans (hcl 9 6 (by kernel_rfl) h)) (by decide)), hF.2.1.2.2⟩⟩, hF.2.2⟩⟩, hp⟩
      refine allU_cons ?_ ?_
      · rintro L e w hLi hb hcl ⟨g8, g9, g10, c_g8_0, c_g9_1, c_g10_2, hF, hp⟩
        have qc_g9_1 := hF.2.1.2.2 hLi
        rw [qc_g9_1] at hp
        refine k_allocAt 4 (ints .u8 (List.replicate 32 (0 : Int))) rfl (by kernel_rfl) hp ?_
        intro g9 w hbg9 hp
        exact k_done ⟨g8, g9, g10, c_g8_0, (List.replicate 32 (0 : Int)), c_g10_2, ⟨⟨hF.1.1, ⟨hF.1.2.1, ⟨hF.1.2.2.1, (fun _ => rfl)⟩⟩⟩, ⟨⟨hF.2.1.1, ⟨hF.2.1.2.1, (fun h => nomatch (show true = false from h))⟩⟩, ⟨⟨⟨(fun _ _ => rfl), (fun h => absurd (hLi.symm.trans (hcl 10 7 (by kernel_rfl) h)) (by decide))⟩, hF.2.2.1.2⟩, hF.2.2.2⟩⟩⟩, hp⟩
      refine allU_cons ?_ ?_
      · rintro L e w hLi hb hcl ⟨g8, g9, g10, c_g8_0, c_g9_1, c_g10_2, hF, hp⟩
        have qc_g10_2 := hF.2.2.1.2 hLi
        rw [qc_g10_2] at hp
        refine k_allocAt 5 (ints .u8 (List.replicate 32 (0 : Int))) rfl (by kernel_rfl) hp ?_
        intro g10 w hbg10 hp
        exact k_done ⟨g8, g9, g10, c_g8_0, c_g9_1, (List.replicate 32 (0 : Int)), ⟨hF.1, ⟨⟨⟨⟨(fun _ => rfl), hF.2.1.1.1.2⟩, hF.2.1.1.2⟩, hF.2.1.2⟩, ⟨⟨hF.2.2.1.1, (fun h => nomatch (show true = false from h))⟩, ⟨(fun _ _ => rfl), (fun h => absurd (hLi.symm.trans (hcl 11 8 (by kernel_rfl) h)) (by decide))⟩⟩⟩⟩, hp⟩
      refine allU_cons ?_ ?_
      · rintro L e w hLi hb hcl ⟨g8, g9, g10, c_g8_0, c_g9_1, c_g10_2, hF, hp⟩
        have hL1 := hb 1 (by kernel_rfl)
        have hL6 := hb 6 (by kernel_rfl)
        have lr50 := hF.1.1.1.1.1 hL1
        have qc_g8_0 := hF.2.1.1.2 hLi hL6
        rw [qc_g8_0] at hp
        refine k_storeA (v := .agg (ints .u8 r5).toArray) 3 0 (r := ⟨g8, 0, ints .u8 (List.replicate 32 (0 : Int))⟩) (ints .u8 r5) (ints .u8 r5) rfl (n := 32) (by kernel_rfl) (hF.1.2.2.1 hL6) (hF.1.1.2.1.2 hL1) rfl ((ints_length _ _).trans lr50) (ints_one _ _) hp rfl rfl rfl (Nat.le_of_eq ((Nat.zero_add _).trans ((ints_length _ _).trans List.length_replicate).symm)) (setMany_all _ _ (((ints_length _ _).trans lr50).trans ((ints_length _ _).trans List.length_replicate).symm)) (by decide) ?_; intro w hp
        exact k_done ⟨g8, g9, g10, r5, c_g9_1, c_g10_2, ⟨hF.1, ⟨⟨⟨⟨hF.2.1.1.1.1, (fun h => absurd (hL6.symm.trans h) (by decide))⟩, (fun h _ => nomatch (show true = false from h))⟩, ⟨(fun _ => rfl), hF.2.1.2.2⟩⟩, hF.2.2⟩⟩, hp⟩
      refine allU_cons ?_ ?_
      · rintro L e w hLi hb hcl ⟨g8, g9, g10, c_g8_0, c_g9_1, c_g10_2, hF, hp⟩
        have hL3 := hb 3 (by kernel_rfl)
        have hL7 := hb 7 (by kernel_rfl)
        have lr60 := hF.1.1.1.1.2 hL3
        have qc_g9_1 := hF.2.2.1.1.1 hLi hL7
        rw [qc_g9_1] at hp
        refine k_storeA (v := .agg (ints .u8 r6).toArray) 4 0 (r := ⟨g9, 0, ints .u8 (List.replicate 32 (0 : Int))⟩) (ints .u8 r6) (ints .u8 r6) rfl (n := 32) (by kernel_rfl) (hF.1.2.2.2 hL7) (hF.1.2.1.1.1 hL3) rfl ((ints_length _ _).trans lr60) (ints_one _ _) hp rfl rfl rfl (Nat.le_of_eq ((Nat.zero_add _).trans ((ints_length _ _).trans List.length_replicate).symm)) (setMany_all _ _ (((ints_length _ _).trans lr60).trans ((ints_length _ _).trans List.length_replicate).symm)) (by decide) ?_; intro w hp
        exact k_done ⟨g8, g9, g10, c_g8_0, r6, c_g10_2, ⟨hF.1, ⟨⟨hF.2.1.1, ⟨hF.2.1.2.1, (fun h => absurd (hL7.symm.trans h) (by decide))⟩⟩, ⟨⟨⟨(fun h _ => nomatch (show true = false from h)), (fun _ => rfl)⟩, hF.2.2.1.2⟩, hF.2.2.2⟩⟩⟩, hp⟩
      refine allU_cons ?_ allU_nil
      · rintro L e w hLi hb hcl ⟨g8, g9, g10, c_g8_0, c_g9_1, c_g10_2, hF, hp⟩
        have hL5 := hb 5 (by kernel_rfl)
        have hL8 := hb 8 (by kernel_rfl)
        have lr70 := hF.1.1.1.2 hL5
        have qc_g10_2 := hF.2.2.2.1 hLi hL8
        rw [qc_g10_2] at hp
        refine k_storeA (v := .agg (ints .u8 r7).toArray) 5 0 (r := ⟨g10, 0, ints .u8 (List.replicate 32 (0 : Int))⟩) (ints .u8 r7) (ints .u8 r7) rfl (n := 32) (by kernel_rfl) (hF.2.1.1.1.1 hL8) (hF.1.2.1.2 hL5) rfl ((ints_length _ _).trans lr70) (ints_one _ _) hp rfl rfl rfl (Nat.le_of_eq ((Nat.zero_add _).trans ((ints_length _ _).trans List.length_replicate).symm)) (setMany_all _ _ (((ints_length _ _).trans lr70).trans ((ints_length _ _).trans List.length_replicate).symm)) (by decide) ?_; intro w hp
        exact k_done ⟨g8, g9, g10, c_g8_0, c_g9_1, r7, ⟨hF.1, ⟨hF.2.1, ⟨⟨hF.2.2.1.1, (fun h => absurd (hL8.symm.trans h) (by decide))⟩, ⟨(fun h _ => nomatch (show true = false from h)), (fun _ => rfl)⟩⟩⟩⟩, hp⟩
    rintro e267 w ⟨g8, g9, g10, hF, hp⟩
    have lr50 := hF.1.1.1
    have lr60 := hF.1.1.2
    have lr70 := hF.1.2
    have s7_e267 := hF.2.1.1
    have s8_e267 := hF.2.1.2
    have s9_e267 := hF.2.2
    clear hF
    refine wseqP (p0 := [1, 1, 1, 0]) (p1 := [1, 1, 1, 1]) rfl rfl rfl ?_
    refine wregionT postilionlaw06_PointGroup.o5 (.tk 0 (.tk 1 (.ef 2 (.tp 3 (.tp 4 (.tp 5 (.ef 6 (.ef 7 (.tp 8 (.done)))))))))) [7] rfl rfl (by kernel_rfl) (by kernel_rfl) ?_
    refine k_loadA (n := 32) (xs := ints .u8 r5) 0 rfl (by kernel_rfl) (by kernel_rfl) s7_e267 (hp.get (j := 3) rfl) rfl rfl ((ints_length _ _).trans lr50) (fun m v hm => by rw [Nat.zero_add]; exact hm) ?_
    refine k_loadA (n := 32) (xs := ints .u8 r6) 0 rfl (by kernel_rfl) (by kernel_rfl) s8_e267 (hp.get (j := 4) rfl) rfl rfl ((ints_length _ _).trans lr60) (fun m v hm => by rw [Nat.zero_add]; exact hm) ?_
    obtain ⟨r11, qr11, h⟩ := bd_e h
    refine k_call [.agg (ints .u8 r5).toArray, .agg (ints .u8 r6).toArray] rfl (by kernel_rfl) (args2 rfl rfl) (point_Add_ok k r5 r6 lr50 lr60 _ (hp.toR (fun _ h => by cases h)) qr11) ?_
    rintro _ w' ⟨_, rfl, rfl, lr110, hpc⟩
    refine ⟨_, rfl, .inr (.of_below hpc.chg.to_below), ?_⟩; have hp := hp.below hpc.chg.to_below; clear hpc
    refine k_move (v := .tuple #[.agg (ints .u8 r11.1).toArray, .int .i64 r11.2]) rfl rfl ?_
    refine k_extract (v := .agg (ints .u8 r11.1).toArray) rfl rfl rfl ?_
    refine k_extract (v := .int .i64 r11.2) rfl rfl rfl ?_
    refine k_alloc (ints .u8 (List.replicate 32 (0 : Int))) rfl (by kernel_rfl) hp ?_
    intro g12 w hbg12 hp
    refine k_storeA (v := .agg (ints .u8 r11.1).toArray) 6 0 (r := ⟨g12, 0, ints .u8 (List.replicate 32 (0 : Int))⟩) (ints .u8 r11.1) (ints .u8 r11.1) rfl (n := 32) (by kernel_rfl) rfl rfl rfl ((ints_length _ _).trans lr110) (ints_one _ _) hp rfl rfl rfl (Nat.le_of_eq ((Nat.zero_add _).trans ((ints_length _ _).trans List.length_replicate).symm)) (setMany_all _ _ (((ints_length _ _).trans lr110).trans ((ints_length _ _).trans List.length_replicate).symm)) (by decide) ?_; intro w hp
    refine k_assign (v := .int .i64 r11.2) rfl rfl ?_
    refine k_end ?_; intro e268 qe268
    have s7_e268 : e268 7 = .pointer (some ⟨g8, 0, none⟩) := (congrFun qe268 7).trans s7_e267
    have s8_e268 : e268 8 = .pointer (some ⟨g9, 0, none⟩) := (congrFun qe268 8).trans s8_e267
    have s9_e268 : e268 9 = .pointer (some ⟨g10, 0, none⟩) := (congrFun qe268 9).trans s9_e267
    have s10_e268 : e268 10 = .pointer (some ⟨g12, 0, none⟩) := congrFun qe268 10
    obtain ⟨x13, qx13, h⟩ := lt_e h
    have s11_e268 : e268 11 = .int .i64 x13 := (congrFun qe268 11).trans (congrArg (Value.int .i64) qx13.symm)
    clear qe268
    refine wseqP (p0 := [1, 1, 1, 1, 0]) (p1 := [1, 1, 1, 1, 1]) rfl rfl rfl ?_
    refine wregionT postilionlaw06_PointGroup.o6 (.tk 0 (.tk 1 (.ef 2 (.tp 3 (.tp 4 (.tp 5 (.ef 6 (.ef 7 (.tp 8 (.done)))))))))) [7] rfl rfl (by kernel_rfl) (by kernel_rfl) ?_
    refine k_loadA (n := 32) (xs := ints .u8 r6) 0 rfl (by kernel_rfl) (by kernel_rfl) s8_e268 (hp.get (j := 4) rfl) rfl rfl ((ints_length _ _).trans lr60) (fun m v hm => by rw [Nat.zero_add]; exact hm) ?_
    refine k_loadA (n := 32) (xs := ints .u8 r5) 0 rfl (by kernel_rfl) (by kernel_rfl) s7_e268 (hp.get (j := 3) rfl) rfl rfl ((ints_length _ _).trans lr50) (fun m v hm => by rw [Nat.zero_add]; exact hm) ?_
    obtain ⟨r14, qr14, h⟩ := bd_e h
    refine k_call [.agg (ints .u8 r6).toArray, .agg (ints .u8 r5).toArray] rfl (by kernel_rfl) (args2 rfl rfl) (point_Add_ok k r6 r5 lr60 lr50 _ (hp.toR (fun _ h => by cases h)) qr14) ?_
    rintro _ w' ⟨_, rfl, rfl, lr140, hpc⟩
    refine ⟨_, rfl, .inr (.of_below hpc.chg.to_below), ?_⟩; have hp := hp.below hpc.chg.to_below; clear hpc
    refine k_move (v := .tuple #[.agg (ints .u8 r14.1).toArray, .int .i64 r14.2]) rfl rfl ?_
    refine k_extract (v := .agg (ints .u8 r14.1).toArray) rfl rfl rfl ?_
    refine k_extract (v := .int .i64 r14.2) rfl rfl rfl ?_
    refine k_alloc (ints .u8 (List.replicate 32 (0 : Int))) rfl (by kernel_rfl) hp ?_
    intro g15 w hbg15 hp
    refine k_storeA (v := .agg (ints .u8 r14.1).toArray) 7 0 (r := ⟨g15, 0, ints .u8 (List.replicate 32 (0 : Int))⟩) (ints .u8 r14.1) (ints .u8 r14.1) rfl (n := 32) (by kernel_rfl) rfl rfl rfl ((ints_length _ _).trans lr140) (ints_one _ _) hp rfl rfl rfl (Nat.le_of_eq ((Nat.zero_add _).trans ((ints_length _ _).trans List.length_replicate).symm)) (setMany_all _ _ (((ints_length _ _).trans lr140).trans ((ints_length _ _).trans List.length_replicate).symm)) (by decide) ?_; intro w hp
    refine k_assign (v := .int .i64 r14.2) rfl rfl ?_
    refine k_end ?_; intro e269 qe269
    have s7_e269 : e269 7 = .pointer (some ⟨g8, 0, none⟩) := (congrFun qe269 7).trans s7_e268
    have s8_e269 : e269 8 = .pointer (some ⟨g9, 0, none⟩) := (congrFun qe269 8).trans s8_e268
    have s9_e269 : e269 9 = .pointer (some ⟨g10, 0, none⟩) := (congrFun qe269 9).trans s9_e268
    have s10_e269 : e269 10 = .pointer (some ⟨g12, 0, none⟩) := (congrFun qe269 10).trans s10_e268
    have s11_e269 : e269 11 = .int .i64 x13 := (congrFun qe269 11).trans s11_e268
    have s12_e269 : e269 12 = .pointer (some ⟨g15, 0, none⟩) := congrFun qe269 12
    obtain ⟨x16, qx16, h⟩ := lt_e h
    have s13_e269 : e269 13 = .int .i64 x16 := (congrFun qe269 13).trans (congrArg (Value.int .i64) qx16.symm)
    clear qe269
    refine wseqP (p0 := [1, 1, 1, 1, 1, 0]) (p1 := [1, 1, 1, 1, 1, 1]) rfl rfl rfl ?_
    refine wregionT postilionlaw06_PointGroup.o7 (.tk 0 (.tk 1 (.ef 2 (.tp 3 (.tp 4 (.tp 5 (.ef 6 (.ef 7 (.tp 8 (.done)))))))))) [7] rfl rfl (by kernel_rfl) (by kernel_rfl) ?_
    refine k_loadA (n := 32) (xs := ints .u8 r11.1) 0 rfl (by kernel_rfl) (by kernel_rfl) s10_e269 (hp.get (j := 6) rfl) rfl rfl ((ints_length _ _).trans lr110) (fun m v hm => by rw [Nat.zero_add]; exact hm) ?_
    refine k_loadA (n := 32) (xs := ints .u8 r7) 0 rfl (by kernel_rfl) (by kernel_rfl) s9_e269 (hp.get (j := 5) rfl) rfl rfl ((ints_length _ _).trans lr70) (fun m v hm => by rw [Nat.zero_add]; exact hm) ?_
    obtain ⟨r17, qr17, h⟩ := bd_e h
    refine k_call [.agg (ints .u8 r11.1).toArray, .agg (ints .u8 r7).toArray] rfl (by kernel_rfl) (args2 rfl rfl) (point_Add_ok k r11.1 r7 lr110 lr70 _ (hp.toR (fun _ h => by cases h)) qr17) ?_
    rintro _ w' ⟨_, rfl, rfl, lr170, hpc⟩
    refine ⟨_, rfl, .inr (.of_below hpc.chg.to_below), ?_⟩; have hp := hp.below hpc.chg.to_below; clear hpc
    refine k_move (v := .tuple #[.agg (ints .u8 r17.1).toArray, .int .i64 r17.2]) rfl rfl ?_
    refine k_extract (v := .agg (ints .u8 r17.1).toArray) rfl rfl rfl ?_
    refine k_extract (v := .int .i64 r17.2) rfl rfl rfl ?_
    refine k_alloc (ints .u8 (List.replicate 32 (0 : Int))) rfl (by kernel_rfl) hp ?_
    intro g18 w hbg18 hp
    refine k_storeA (v := .agg (ints .u8 r17.1).toArray) 8 0 (r := ⟨g18, 0, ints .u8 (List.replicate 32 (0 : Int))⟩) (ints .u8 r17.1) (ints .u8 r17.1) rfl (n := 32) (by kernel_rfl) rfl rfl rfl ((ints_length _ _).trans lr170) (ints_one _ _) hp rfl rfl rfl (Nat.le_of_eq ((Nat.zero_add _).trans ((ints_length _ _).trans List.length_replicate).symm)) (setMany_all _ _ (((ints_length _ _).trans lr170).trans ((ints_length _ _).trans List.length_replicate).symm)) (by decide) ?_; intro w hp
    refine k_assign (v := .int .i64 r17.2) rfl rfl ?_
    refine k_end ?_; intro e270 qe270
    have s7_e270 : e270 7 = .pointer (some ⟨g8, 0, none⟩) := (congrFun qe270 7).trans s7_e269
    have s8_e270 : e270 8 = .pointer (some ⟨g9, 0, none⟩) := (congrFun qe270 8).trans s8_e269
    have s9_e270 : e270 9 = .pointer (some ⟨g10, 0, none⟩) := (congrFun qe270 9).trans s9_e269
    have s10_e270 : e270 10 = .pointer (some ⟨g12, 0, none⟩) := (congrFun qe270 10).trans s10_e269
    have s11_e270 : e270 11 = .int .i64 x13 := (congrFun qe270 11).trans s11_e269
    have s12_e270 : e270 12 = .pointer (some ⟨g15, 0, none⟩) := (congrFun qe270 12).trans s12_e269
    have s13_e270 : e270 13 = .int .i64 x16 := (congrFun qe270 13).trans s13_e269
    have s14_e270 : e270 14 = .pointer (some ⟨g18, 0, none⟩) := congrFun qe270 14
    obtain ⟨x19, qx19, h⟩ := lt_e h
    have s15_e270 : e270 15 = .int .i64 x19 := (congrFun qe270 15).trans (congrArg (Value.int .i64) qx19.symm)
    clear qe270
    refine wseqP (p0 := [1, 1, 1, 1, 1, 1, 0]) (p1 := [1, 1, 1, 1, 1, 1, 1]) rfl rfl rfl ?_
    refine wregionT postilionlaw06_PointGroup.o8 (.tk 0 (.tk 1 (.ef 2 (.tp 3 (.tp 4 (.tp 5 (.ef 6 (.ef 7 (.tp 8 (.done)))))))))) [7] rfl rfl (by kernel_rfl) (by kernel_rfl) ?_
    refine k_loadA (n := 32) (xs := ints .u8 r6) 0 rfl (by kernel_rfl) (by kernel_rfl) s8_e270 (hp.get (j := 4) rfl) rfl rfl ((ints_length _ _).trans lr60) (fun m v hm => by rw [Nat.zero_add]; exact hm) ?_
    refine k_loadA (n := 32) (xs := ints .u8 r7) 0 rfl (by kernel_rfl) (by kernel_rfl) s9_e270 (hp.get (j := 5) rfl) rfl rfl ((ints_length _ _).trans lr70) (fun m v hm => by rw [Nat.zero_add]; exact hm) ?_
    obtain ⟨r20, qr20, h⟩ := bd_e h
    refine k_call [.agg (ints .u8 r6).toArray, .agg (ints .u8 r7).toArray] rfl (by kernel_rfl) (args2 rfl rfl) (point_Add_ok k r6 r7 lr60 lr70 _ (hp.toR (fun _ h => by cases h)) qr20) ?_
    rintro _ w' ⟨_, rfl, rfl, lr200, hpc⟩
    refine ⟨_, rfl, .inr (.of_below hpc.chg.to_below), ?_⟩; have hp := hp.below hpc.chg.to_below; clear hpc
    refine k_move (v := .tuple #[.agg (ints .u8 r20.1).toArray, .int .i64 r20.2]) rfl rfl ?_
    refine k_extract (v := .agg (ints .u8 r20.1).toArray) rfl rfl rfl ?_
    refine k_extract (v := .int .i64 r20.2) rfl rfl rfl ?_
    refine k_alloc (ints .u8 (List.replicate 32 (0 : Int))) rfl (by kernel_rfl) hp ?_
    intro g21 w hbg21 hp
    refine k_storeA (v := .agg (ints .u8 r20.1).toArray) 9 0 (r := ⟨g21, 0, ints .u8 (List.replicate 32 (0 : Int))⟩) (ints .u8 r20.1) (ints .u8 r20.1) rfl (n := 32) (by kernel_rfl) rfl rfl rfl ((ints_length _ _).trans lr200) (ints_one _ _) hp rfl rfl rfl (Nat.le_of_eq ((Nat.zero_add _).trans ((ints_length _ _).trans List.length_replicate).symm)) (setMany_all _ _ (((ints_length _ _).trans lr200).trans ((ints_length _ _).trans List.length_replicate).symm)) (by decide) ?_; intro w hp
    refine k_assign (v := .int .i64 r20.2) rfl rfl ?_
    refine k_end ?_; intro e271 qe271
    have s7_e271 : e271 7 = .pointer (some ⟨g8, 0, none⟩) := (congrFun qe271 7).trans s7_e270
    have s10_e271 : e271 10 = .pointer (some ⟨g12, 0, none⟩) := (congrFun qe271 10).trans s10_e270
    have s11_e271 : e271 11 = .int .i64 x13 := (congrFun qe271 11).trans s11_e270
    have s12_e271 : e271 12 = .pointer (some ⟨g15, 0, none⟩) := (congrFun qe271 12).trans s12_e270
    have s13_e271 : e271 13 = .int .i64 x16 := (congrFun qe271 13).trans s13_e270
    have s14_e271 : e271 14 = .pointer (some ⟨g18, 0, none⟩) := (congrFun qe271 14).trans s14_e270
    have s15_e271 : e271 15 = .int .i64 x19 := (congrFun qe271 15).trans s15_e270
    have s16_e271 : e271 16 = .pointer (some ⟨g21, 0, none⟩) := congrFun qe271 16
    obtain ⟨x22, qx22, h⟩ := lt_e h
    have s17_e271 : e271 17 = .int .i64 x22 := (congrFun qe271 17).trans (congrArg (Value.int .i64) qx22.symm)
    clear qe271
    refine wseqP (p0 := [1, 1, 1, 1, 1, 1, 1, 0]) (p1 := [1, 1, 1, 1, 1, 1, 1, 1]) rfl rfl rfl ?_
    refine wregionT postilionlaw06_PointGroup.o9 (.tk 0 (.tk 1 (.ef 2 (.tp 3 (.tp 4 (.tp 5 (.ef 6 (.ef 7 (.tp 8 (.done)))))))))) [7] rfl rfl (by kernel_rfl) (by kernel_rfl) ?_
    refine k_loadA (n := 32) (xs := ints .u8 r5) 0 rfl (by kernel_rfl) (by kernel_rfl) s7_e271 (hp.get (j := 3) rfl) rfl rfl ((ints_length _ _).trans lr50) (fun m v hm => by rw [Nat.zero_add]; exact hm) ?_
    refine k_loadA (n := 32) (xs := ints .u8 r20.1) 0 rfl (by kernel_rfl) (by kernel_rfl) s16_e271 (hp.get (j := 9) rfl) rfl rfl ((ints_length _ _).trans lr200) (fun m v hm => by rw [Nat.zero_add]; exact hm) ?_
    obtain ⟨r23, qr23, h⟩ := bd_e h
    refine k_call [.agg (ints .u8 r5).toArray, .agg (ints .u8 r20.1).toArray] rfl (by kernel_rfl) (args2 rfl rfl) (point_Add_ok k r5 r20.1 lr50 lr200 _ (hp.toR (fun _ h => by cases h)) qr23) ?_
    rintro _ w' ⟨_, rfl, rfl, lr230, hpc⟩
    refine ⟨_, rfl, .inr (.of_below hpc.chg.to_below), ?_⟩; have hp := hp.below hpc.chg.to_below; clear hpc
    refine k_move (v := .tuple #[.agg (ints .u8 r23.1).toArray, .int .i64 r23.2]) rfl rfl ?_
    refine k_extract (v := .agg (ints .u8 r23.1).toArray) rfl rfl rfl ?_
    refine k_extract (v := .int .i64 r23.2) rfl rfl rfl ?_
    refine k_alloc (ints .u8 (List.replicate 32 (0 : Int))) rfl (by kernel_rfl) hp ?_
    intro g24 w hbg24 hp
    refine k_storeA (v := .agg (ints .u8 r23.1).toArray) 10 0 (r := ⟨g24, 0, ints .u8 (List.replicate 32 (0 : Int))⟩) (ints .u8 r23.1) (ints .u8 r23.1) rfl (n := 32) (by kernel_rfl) rfl rfl rfl ((ints_length _ _).trans lr230) (ints_one _ _) hp rfl rfl rfl (Nat.le_of_eq ((Nat.zero_add _).trans ((ints_length _ _).trans List.length_replicate).symm)) (setMany_all _ _ (((ints_length _ _).trans lr230).trans ((ints_length _ _).trans List.length_replicate).symm)) (by decide) ?_; intro w hp
    refine k_assign (v := .int .i64 r23.2) rfl rfl ?_
    refine k_end ?_; intro e272 qe272
    have s7_e272 : e272 7 = .pointer (some ⟨g8, 0, none⟩) := (congrFun qe272 7).trans s7_e271
    have s10_e272 : e272 10 = .pointer (some ⟨g12, 0, none⟩) := (congrFun qe272 10).trans s10_e271
    have s11_e272 : e272 11 = .int .i64 x13 := (congrFun qe272 11).trans s11_e271
    have s12_e272 : e272 12 = .pointer (some ⟨g15, 0, none⟩) := (congrFun qe272 12).trans s12_e271
    have s13_e272 : e272 13 = .int .i64 x16 := (congrFun qe272 13).trans s13_e271
    have s14_e272 : e272 14 = .pointer (some ⟨g18, 0, none⟩) := (congrFun qe272 14).trans s14_e271
    have s15_e272 : e272 15 = .int .i64 x19 := (congrFun qe272 15).trans s15_e271
    have s17_e272 : e272 17 = .int .i64 x22 := (congrFun qe272 17).trans s17_e271
    have s18_e272 : e272 18 = .pointer (some ⟨g24, 0, none⟩) := congrFun qe272 18
    obtain ⟨x25, qx25, h⟩ := lt_e h
    have s19_e272 : e272 19 = .int .i64 x25 := (congrFun qe272 19).trans (congrArg (Value.int .i64) qx25.symm)
    clear qe272
    refine wseqP (p0 := [1, 1, 1, 1, 1, 1, 1, 1, 0]) (p1 := [1, 1, 1, 1, 1, 1, 1, 1, 1]) rfl rfl rfl ?_
    refine wregionT postilionlaw06_PointGroup.o10 (.tk 0 (.ef 1 (.tp 2 (.tp 3 (.tp 4 (.ef 5 (.ef 6 (.tp 7 (.done))))))))) [6] rfl rfl (by kernel_rfl) (by kernel_rfl) ?_
    refine k_loadA (n := 32) (xs := ints .u8 r5) 0 rfl (by kernel_rfl) (by kernel_rfl) s7_e272 (hp.get (j := 3) rfl) rfl rfl ((ints_length _ _).trans lr50) (fun m v hm => by rw [Nat.zero_add]; exact hm) ?_
    obtain ⟨r26, qr26, h⟩ := bd_e h
    refine k_call [.agg (ints .u8 r5).toArray] rfl (by kernel_rfl) (args1 rfl) (point_Neg_ok k r5 lr50 _ (hp.toR (fun _ h => by cases h)) qr26) ?_
    rintro _ w' ⟨_, rfl, rfl, lr260, hpc⟩
    refine ⟨_, rfl, .inr (.of_below hpc.chg.to_below), ?_⟩; have hp := hp.below hpc.chg.to_below; clear hpc
    refine k_move (v := .tuple #[.agg (ints .u8 r26.1).toArray, .int .i64 r26.2]) rfl rfl ?_
    refine k_extract (v := .agg (ints .u8 r26.1).toArray) rfl rfl rfl ?_
    refine k_extract (v := .int .i64 r26.2) rfl rfl rfl ?_
    refine k_alloc (ints .u8 (List.replicate 32 (0 : Int))) rfl (by kernel_rfl) hp ?_
    intro g27 w hbg27 hp
    refine k_storeA (v := .agg (ints .u8 r26.1).toArray) 11 0 (r := ⟨g27, 0, ints .u8 (List.replicate 32 (0 : Int))⟩) (ints .u8 r26.1) (ints .u8 r26.1) rfl (n := 32) (by kernel_rfl) rfl rfl rfl ((ints_length _ _).trans lr260) (ints_one _ _) hp rfl rfl rfl (Nat.le_of_eq ((Nat.zero_add _).trans ((ints_length _ _).trans List.length_replicate).symm)) (setMany_all _ _ (((ints_length _ _).trans lr260).trans ((ints_length _ _).trans List.length_replicate).symm)) (by decide) ?_; intro w hp
    refine k_assign (v := .int .i64 r26.2) rfl rfl ?_
    refine k_end ?_; intro e273 qe273
    have s7_e273 : e273 7 = .pointer (some ⟨g8, 0, none⟩) := (congrFun qe273 7).trans s7_e272
    have s10_e273 : e273 10 = .pointer (some ⟨g12, 0, none⟩) := (congrFun qe273 10).trans s10_e272
    have s11_e273 : e273 11 = .int .i64 x13 := (congrFun qe273 11).trans s11_e272
    have s12_e273 : e273 12 = .pointer (some ⟨g15, 0, none⟩) := (congrFun qe273 12).trans s12_e272
    have s13_e273 : e273 13 = .int .i64 x16 := (congrFun qe273 13).trans s13_e272
    have s14_e273 : e273 14 = .pointer (some ⟨g18, 0, none⟩) := (congrFun qe273 14).trans s14_e272
    have s15_e273 : e273 15 = .int .i64 x19 := (congrFun qe273 15).trans s15_e272
    have s17_e273 : e273 17 = .int .i64 x22 := (congrFun qe273 17).trans s17_e272
    have s18_e273 : e273 18 = .pointer (some ⟨g24, 0, none⟩) := (congrFun qe273 18).trans s18_e272
    have s19_e273 : e273 19 = .int .i64 x25 := (congrFun qe273 19).trans s19_e272
    have s20_e273 : e273 20 = .pointer (some ⟨g27, 0, none⟩) := congrFun qe273 20
    obtain ⟨x28, qx28, h⟩ := lt_e h
    have s21_e273 : e273 21 = .int .i64 x28 := (congrFun qe273 21).trans (congrArg (Value.int .i64) qx28.symm)
    clear qe273
    refine wseqP (p0 := [1, 1, 1, 1, 1, 1, 1, 1, 1, 0]) (p1 := [1, 1, 1, 1, 1, 1, 1, 1, 1, 1]) rfl rfl rfl ?_
    refine wregionT postilionlaw06_PointGroup.o11 (.tk 0 (.tk 1 (.ef 2 (.tp 3 (.tp 4 (.tp 5 (.ef 6 (.ef 7 (.tp 8 (.done)))))))))) [7] rfl rfl (by kernel_rfl) (by kernel_rfl) ?_
    refine k_loadA (n := 32) (xs := ints .u8 r5) 0 rfl (by kernel_rfl) (by kernel_rfl) s7_e273 (hp.get (j := 3) rfl) rfl rfl ((ints_length _ _).trans lr50) (fun m v hm => by rw [Nat.zero_add]; exact hm) ?_
    refine k_loadA (n := 32) (xs := ints .u8 r26.1) 0 rfl (by kernel_rfl) (by kernel_rfl) s20_e273 (hp.get (j := 11) rfl) rfl rfl ((ints_length _ _).trans lr260) (fun m v hm => by rw [Nat.zero_add]; exact hm) ?_
    obtain ⟨r29, qr29, h⟩ := bd_e h
    refine k_call [.agg (ints .u8 r5).toArray, .agg (ints .u8 r26.1).toArray] rfl (by kernel_rfl) (args2 rfl rfl) (point_Add_ok k r5 r26.1 lr50 lr260 _ (hp.toR (fun _ h => by cases h)) qr29) ?_
    rintro _ w' ⟨_, rfl, rfl, lr290, hpc⟩
    refine ⟨_, rfl, .inr (.of_below hpc.chg.to_below), ?_⟩; have hp := hp.below hpc.chg.to_below; clear hpc
    refine k_move (v := .tuple #[.agg (ints .u8 r29.1).toArray, .int .i64 r29.2]) rfl rfl ?_
    refine k_extract (v := .agg (ints .u8 r29.1).toArray) rfl rfl rfl ?_
    refine k_extract (v := .int .i64 r29.2) rfl rfl rfl ?_
    refine k_alloc (ints .u8 (List.replicate 32 (0 : Int))) rfl (by kernel_rfl) hp ?_
    intro g30 w hbg30 hp
    refine k_storeA (v := .agg (ints .u8 r29.1).toArray) 12 0 (r := ⟨g30, 0, ints .u8 (List.replicate 32 (0 : Int))⟩) (ints .u8 r29.1) (ints .u8 r29.1) rfl (n := 32) (by kernel_rfl) rfl rfl rfl ((ints_length _ _).trans lr290) (ints_one _ _) hp rfl rfl rfl (Nat.le_of_eq ((Nat.zero_add _).trans ((ints_length _ _).trans List.length_replicate).symm)) (setMany_all _ _ (((ints_length _ _).trans lr290).trans ((ints_length _ _).trans List.length_replicate).symm)) (by decide) ?_; intro w hp
    refine k_assign (v := .int .i64 r29.2) rfl rfl ?_
    refine k_end ?_; intro e274 qe274
    have s7_e274 : e274 7 = .pointer (some ⟨g8, 0, none⟩) := (congrFun qe274 7).trans s7_e273
    have s10_e274 : e274 10 = .pointer (some ⟨g12, 0, none⟩) := (congrFun qe274 10).trans s10_e273
    have s11_e274 : e274 11 = .int .i64 x13 := (congrFun qe274 11).trans s11_e273
    have s12_e274 : e274 12 = .pointer (some ⟨g15, 0, none⟩) := (congrFun qe274 12).trans s12_e273
    have s13_e274 : e274 13 = .int .i64 x16 := (congrFun qe274 13).trans s13_e273
    have s14_e274 : e274 14 = .pointer (some ⟨g18, 0, none⟩) := (congrFun qe274 14).trans s14_e273
    have s15_e274 : e274 15 = .int .i64 x19 := (congrFun qe274 15).trans s15_e273
    have s17_e274 : e274 17 = .int .i64 x22 := (congrFun qe274 17).trans s17_e273
    have s18_e274 : e274 18 = .pointer (some ⟨g24, 0, none⟩) := (congrFun qe274 18).trans s18_e273
    have s19_e274 : e274 19 = .int .i64 x25 := (congrFun qe274 19).trans s19_e273
    have s21_e274 : e274 21 = .int .i64 x28 := (congrFun qe274 21).trans s21_e273
    have s22_e274 : e274 22 = .pointer (some ⟨g30, 0, none⟩) := congrFun qe274 22
    obtain ⟨x31, qx31, h⟩ := lt_e h
    have s23_e274 : e274 23 = .int .i64 x31 := (congrFun qe274 23).trans (congrArg (Value.int .i64) qx31.symm)
    clear qe274
    refine wseqP (p0 := [1, 1, 1, 1, 1, 1, 1, 1, 1, 1, 0]) (p1 := [1, 1, 1, 1, 1, 1, 1, 1, 1, 1, 1]) rfl rfl rfl ?_
    obtain ⟨r32, qr32, h⟩ := bd_e h
    obtain ⟨r33, qr33, h⟩ := bd_e h
    obtain ⟨x35, qx35, h⟩ := lt_e h
    refine wcut (fun e275 w2 => ∃ g34 : Nat, ((((r33.1.length = 32 ∧ e275 7 = .pointer (some ⟨g8, 0, none⟩)) ∧ (e275 10 = .pointer (some ⟨g12, 0, none⟩) ∧ e275 11 = .int .i64 x13)) ∧ ((e275 12 = .pointer (some ⟨g15, 0, none⟩) ∧ e275 13 = .int .i64 x16) ∧ (e275 14 = .pointer (some ⟨g18, 0, none⟩) ∧ e275 15 = .int .i64 x19))) ∧ (((e275 17 = .int .i64 x22 ∧ e275 18 = .pointer (some ⟨g24, 0, none⟩)) ∧ (e275 19 = .int .i64 x25 ∧ e275 21 = .int .i64 x28)) ∧ ((e275 22 = .pointer (some ⟨g30, 0, none⟩) ∧ e275 23 = .int .i64 x31) ∧ (e275 24 = .pointer (some ⟨g34, 0, none⟩) ∧ e275 25 = .int .i64 x35)))) ∧ Hp w0 [] w2 [⟨g1, 0, ints .u8 a0⟩, ⟨g2, 0, ints .u8 a1⟩, ⟨g3, 0, ints .u8 a2⟩, ⟨g8, 0, ints .u8 r5⟩, ⟨g9, 0, ints .u8 r6⟩, ⟨g10, 0, ints .u8 r7⟩, ⟨g12, 0, ints .u8 r11.1⟩, ⟨g15, 0, ints .u8 r14.1⟩, ⟨g18, 0, ints .u8 r17.1⟩, ⟨g21, 0, ints .u8 r20.1⟩, ⟨g24, 0, ints .u8 r23.1⟩, ⟨g27, 0, ints .u8 r26.1⟩, ⟨g30, 0, ints .u8 r29.1⟩, ⟨g34, 0, ints .u8 r33.1⟩] []) ?_ ?_
    rotate_left
    · refine wregionM postilionlaw06_PointGroup.o12 (.tk 0 (.rest 1 8)) [7] [(0, 0, 0), (0, 511, 511), (3, 511, 511), (4, 511, 511), (8, 511, 511), (8, 511, 511), (0, 511, 511), (95, 511, 511), (255, 511, 511)] rfl rfl (by kernel_rfl) (by kernel_rfl) (Nat.le_of_ble_eq_true (by kernel_rfl)) (by kernel_rfl) (by kernel_rfl) (by kernel_rfl) ?_
      have hp := hp.drew
      refine k_loadA (n := 32) (xs := ints .u8 r5) 0 rfl (by kernel_rfl) (by kernel_rfl) s7_e274 (hp.get (j := 3) rfl) rfl rfl ((ints_length _ _).trans lr50) (fun m v hm => by rw [Nat.zero_add]; exact hm) ?_
      refine k_rest [1, 2, 3, 4, 5, 6, 7, 8] (fun L e w => ∃ g34 : Nat, ∃ c_g34_0 : List Int, (((((L 1 = true → r32.length = 32) ∧ (L 2 = true → r33.1.length = 32)) ∧ (((((e 7 = .pointer (some ⟨g8, 0, none⟩) ∧ e 10 = .pointer (some ⟨g12, 0, none⟩)) ∧ (e 11 = .int .i64 x13 ∧ e 12 = .pointer (some ⟨g15, 0, none⟩))) ∧ ((e 13 = .int .i64 x16 ∧ e 14 = .pointer (some ⟨g18, 0, none⟩)) ∧ e 15 = .int .i64 x19)) ∧ (((e 17 = .int .i64 x22 ∧ e 18 = .pointer (some ⟨g24, 0, none⟩)) ∧ (e 19 = .int .i64 x25 ∧ e 21 = .int .i64 x28)) ∧ ((e 22 = .pointer (some ⟨g30, 0, none⟩) ∧ e 23 = .int .i64 x31) ∧ e 76 = .agg (ints .u8 r5).toArray))) ∧ (L 1 = true → e 77 = .agg (ints .u8 r32).toArray))) ∧ (((L 2 = true → e 78 = .tuple #[.agg (ints .u8 r33.1).toArray, .int .i64 r33.2]) ∧ (L 3 = true → e 75 = .tuple #[.agg (ints .u8 r33.1).toArray, .int .i64 r33.2])) ∧ (L 4 = true → e 79 = .agg (ints .u8 r33.1).toArray))) ∧ ((((L 5 = true → e 80 = .int .i64 r33.2) ∧ (L 6 = true → e 24 = .pointer (some ⟨g34, 0, none⟩))) ∧ (L 8 = true → e 25 = .int .i64 r33.2)) ∧ (((L 6 = false → c_g34_0 = ([] : List Int)) ∧ (L 7 = false → L 6 = true → c_g34_0 = (List.replicate 32 (0 : Int)))) ∧ (L 7 = true → c_g34_0 = r33.1)))) ∧ Hp w0 [] w [⟨g1, 0, ints .u8 a0⟩, ⟨g2, 0, ints .u8 a1⟩, ⟨g3, 0, ints .u8 a2⟩, ⟨g8, 0, ints .u8 r5⟩, ⟨g9, 0, ints .u8 r6⟩, ⟨g10, 0, ints .u8 r7⟩, ⟨g12, 0, ints .u8 r11.1⟩, ⟨g15, 0, ints .u8 r14.1⟩, ⟨g18, 0, ints .u8 r17.1⟩, ⟨g21, 0, ints .u8 r20.1⟩, ⟨g24, 0, ints .u8 r23.1⟩, ⟨g27, 0, ints .u8 r26.1⟩, ⟨g30, 0, ints .u8 r29.1⟩, ⟨g34, 0, ints .u8 c_g34_0⟩] []) (by kernel_rfl) (by kernel_rfl) ?_ ?_ ?_
      have hp := hp.free1 0 0
      · exact ⟨0, ([] : List Int), ⟨⟨⟨⟨(fun h => absurd h (by decide)), (fun h => absurd h (by decide))⟩, ⟨⟨⟨⟨⟨s7_e274, s10_e274⟩, ⟨s11_e274, s12_e274⟩⟩, ⟨⟨s13_e274, s14_e274⟩, s15_e274⟩⟩, ⟨⟨⟨s17_e274, s18_e274⟩, ⟨s19_e274, s21_e274⟩⟩, ⟨⟨s22_e274, s23_e274⟩, rfl⟩⟩⟩, (fun h => absurd h (by decide))⟩⟩, ⟨⟨(fun h => absurd h (by decide)), (fun h => absurd h (by decide))⟩, (fun h => absurd h (by decide))⟩⟩, ⟨⟨⟨(fun h => absurd h (by decide)), (fun h => absurd h (by decide))⟩, (fun h => absurd h (by decide))⟩, ⟨⟨(fun _ => rfl), (fun _ h => absurd h (by decide))⟩, (fun h => absurd h (by decide))⟩⟩⟩, hp⟩
      · rintro L e w hall ⟨g34, c_g34_0, hF, hp⟩
        have qc_g34_0 := hF.2.2.2 (hall 7 rfl)
        rw [qc_g34_0] at hp
        exact onlyN_i ⟨g34, ⟨⟨⟨⟨(hF.1.1.1.2 (hall 2 rfl)), hF.1.1.2.1.1.1.1.1⟩, ⟨hF.1.1.2.1.1.1.1.2, hF.1.1.2.1.1.1.2.1⟩⟩, ⟨⟨hF.1.1.2.1.1.1.2.2, hF.1.1.2.1.1.2.1.1⟩, ⟨hF.1.1.2.1.1.2.1.2, hF.1.1.2.1.1.2.2⟩⟩⟩, ⟨⟨⟨hF.1.1.2.1.2.1.1.1, hF.1.1.2.1.2.1.1.2⟩, ⟨hF.1.1.2.1.2.1.2.1, hF.1.1.2.1.2.1.2.2⟩⟩, ⟨⟨hF.1.1.2.1.2.2.1.1, hF.1.1.2.1.2.2.1.2⟩, ⟨(hF.2.1.1.2 (hall 6 rfl)), (hF.2.1.2 (hall 8 rfl)).trans (congrArg (Value.int .i64) qx35.symm)⟩⟩⟩⟩, hp⟩
      refine allU_cons ?_ ?_
      · rintro L e w hLi hb hcl ⟨g34, c_g34_0, hF, hp⟩
        refine k_call [] rfl (by kernel_rfl) (args0 ) (point_Zero_ok   _ (hp.toR (fun _ h => by cases h)) qr32) ?_
        rintro _ w' ⟨_, rfl, rfl, lr320, hpc⟩
        refine ⟨_, rfl, .inr (.of_below hpc.chg.to_below), ?_⟩; have hp := hp.below hpc.chg.to_below; clear hpc
        exact k_done ⟨g34, c_g34_0, ⟨⟨⟨⟨(fun _ => lr320), hF.1.1.1.2⟩, ⟨hF.1.1.2.1, (fun _ => rfl)⟩⟩, hF.1.2⟩, hF.2⟩, hp⟩
      refine allU_cons ?_ ?_
      · rintro L e w hLi hb hcl ⟨g34, c_g34_0, hF, hp⟩
        have hL1 := hb 1 (by kernel_rfl)
        have lr320 := hF.1.1.1.1 hL1
        refine k_call [.agg (ints .u8 r5).toArray, .agg (ints .u8 r32).toArray] rfl (by kernel_rfl) (args2 hF.1.1.2.1.2.2.2 (hF.1.1.2.2 hL1)) (point_Add_ok k r5 r32 lr50 lr320 _ (hp.toR (fun _ h => by cases h)) qr33) ?_
        rintro _ w' ⟨_, rfl, rfl, lr330, hpc⟩
        refine ⟨_, rfl, .inr (.of_below hpc.chg.to_below), ?_⟩; have hp := hp.below hpc.chg.to_below; clear hpc
        exact k_done ⟨g34, c_g34_0, ⟨⟨⟨⟨hF.1.1.1.1, (fun _ => lr330)⟩, hF.1.1.2⟩, ⟨⟨(fun _ => rfl), hF.1.2.1.2⟩, hF.1.2.2⟩⟩, hF.2⟩, hp⟩
      refine allU_cons ?_ ?_
      · rintro L e w hLi hb hcl ⟨g34, c_g34_0, hF, hp⟩
        have hL2 := hb 2 (by kernel_rfl)
        refine tp_ef ?_
        refine k_move (v := .tuple #[.agg (ints .u8 r33.1).toArray, .int .i64 r33.2]) rfl (hF.1.2.1.1 hL2) ?_
        exact k_done ⟨g34, c_g34_0, ⟨⟨hF.1.1, ⟨⟨hF.1.2.1.1, (fun _ => rfl)⟩, hF.1.2.2⟩⟩, hF.2⟩, hp⟩
      refine allU_cons ?_ ?_
      · rintro L e w hLi hb hcl ⟨g34, c_g34_0, hF, hp⟩
        have hL3 := hb 3 (by kernel_rfl)
        refine tp_ef ?_
        refine k_extract (v := .agg (ints .u8 r33.1).toArray) rfl (hF.1.2.1.2 hL3) rfl ?_
        exact k_done ⟨g34, c_g34_0, ⟨⟨hF.1.1, ⟨hF.1.2.1, (fun _ => rfl)⟩⟩, hF.2⟩, hp⟩
      refine allU_cons ?_ ?_
      · rintro L e w hLi hb hcl ⟨g34, c_g34_0, hF, hp⟩
        have hL3 := hb 3 (by kernel_rfl)
        refine tp_ef ?_
        refine k_extract (v := .int .i64 r33.2) rfl (hF.1.2.1.2 hL3) rfl ?_
        exact k_done ⟨g34, c_g34_0, ⟨hF.1, ⟨⟨⟨(fun _ => rfl), hF.2.1.1.2⟩, hF.2.1.2⟩, hF.2.2⟩⟩, hp⟩
      refine allU_cons ?_ ?_
      · rintro L e w hLi hb hcl ⟨g34, c_g34_0, hF, hp⟩
        have qc_g34_0 := hF.2.2.1.1 hLi
        rw [qc_g34_0] at hp
        refine k_allocAt 13 (ints .u8 (List.replicate 32 (0 : Int))) rfl (by kernel_rfl) hp ?_
        intro g34 w hbg34 hp
        exact k_done ⟨g34, (List.replicate 32 (0 : Int)), ⟨hF.1, ⟨⟨⟨hF.2.1.1.1, (fun _ => rfl)⟩, hF.2.1.2⟩, ⟨⟨(fun h => nomatch (show true = false from h)), (fun _ _ => rfl)⟩, (fun h => absurd (hLi.symm.trans (hcl 7 6 (by kernel_rfl) h)) (by decide))⟩⟩⟩, hp⟩
      refine allU_cons ?_ ?_
      · rintro L e w hLi hb hcl ⟨g34, c_g34_0, hF, hp⟩
        have hL2 := hb 2 (by kernel_rfl)
        have hL4 := hb 4 (by kernel_rfl)
        have hL6 := hb 6 (by kernel_rfl)
        have lr330 := hF.1.1.1.2 hL2
        have qc_g34_0 := hF.2.2.1.2 hLi hL6
        rw [qc_g34_0] at hp
        refine k_storeA (v := .agg (ints .u8 r33.1).toArray) 13 0 (r := ⟨g34, 0, ints .u8 (List.replicate 32 (0 : Int))⟩) (ints .u8 r33.1) (ints .u8 r33.1) rfl (n := 32) (by kernel_rfl) (hF.2.1.1.2 hL6) (hF.1.2.2 hL4) rfl ((ints_length _ _).trans lr330) (ints_one _ _) hp rfl rfl rfl (Nat.le_of_eq ((Nat.zero_add _).trans ((ints_length _ _).trans List.length_replicate).symm)) (setMany_all _ _ (((ints_length _ _).trans lr330).trans ((ints_length _ _).trans List.length_replicate).symm)) (by decide) ?_; intro w hp
        exact k_done ⟨g34, r33.1, ⟨hF.1, ⟨hF.2.1, ⟨⟨(fun h => absurd (hL6.symm.trans h) (by decide)), (fun h _ => nomatch (show true = false from h))⟩, (fun _ => rfl)⟩⟩⟩, hp⟩
      refine allU_cons ?_ allU_nil
      · rintro L e w hLi hb hcl ⟨g34, c_g34_0, hF, hp⟩
        have hL5 := hb 5 (by kernel_rfl)
        refine tp_ef ?_
        refine k_assign (v := .int .i64 r33.2) rfl (hF.2.1.1.1 hL5) ?_
        exact k_done ⟨g34, c_g34_0, ⟨hF.1, ⟨⟨hF.2.1.1, (fun _ => rfl)⟩, hF.2.2⟩⟩, hp⟩
    rintro e275 w ⟨g34, hF, hp⟩
    have lr330 := hF.1.1.1.1
    have s7_e275 := hF.1.1.1.2
    have s10_e275 := hF.1.1.2.1
    have s11_e275 := hF.1.1.2.2
    have s12_e275 := hF.1.2.1.1
    have s13_e275 := hF.1.2.1.2
    have s14_e275 := hF.1.2.2.1
    have s15_e275 := hF.1.2.2.2
    have s17_e275 := hF.2.1.1.1
    have s18_e275 := hF.2.1.1.2
    have s19_e275 := hF.2.1.2.1
    have s21_e275 := hF.2.1.2.2
    have s22_e275 := hF.2.2.1.1
    have s23_e275 := hF.2.2.1.2
    have s24_e275 := hF.2.2.2.1
    have s25_e275 := hF.2.2.2.2
    clear hF
    refine wseqP (p0 := [1, 1, 1, 1, 1, 1, 1, 1, 1, 1, 1, 0]) (p1 := [1, 1, 1, 1, 1, 1, 1, 1, 1, 1, 1, 1]) rfl rfl rfl ?_
    refine wseqP (p0 := [1, 1, 1, 1, 1, 1, 1, 1, 1, 1, 1, 0, 0]) (p1 := [1, 1, 1, 1, 1, 1, 1, 1, 1, 1, 1, 0, 1]) rfl rfl rfl ?_
    obtain ⟨r36, qr36, h⟩ := bd_e h
    refine postilionlaw06_PointGroup.p1_ok g1 g10 g12 g15 g18 g2 g21 g24 g27 g3 g30 g34 g8 g9 x13 x16 x19 x22 x25 x28 x31 x35 a0 a1 a2 r5 r6 r7 r11 r14 r17 r20 r23 r26 r29 r33 la0 la1 la2 lr50 lr60 lr70 lr110 lr140 lr170 lr200 lr230 lr260 lr290 lr330 ?hq0 e275 _ s7_e275 s10_e275 s11_e275 s12_e275 s13_e275 s14_e275 s15_e275 s17_e275 s18_e275 s19_e275 s21_e275 s22_e275 s23_e275 s24_e275 s25_e275 hp qr36
    case hq0 =>
      intro e284 w m37  s7_e284 s10_e284 s12_e284 s14_e284 s18_e284 s22_e284 s24_e284 s110_e284 hp qq
      rw [qq] at h; clear qq
      refine wcondP (p0 := [1, 1, 1, 1, 1, 1, 1, 1, 1, 1, 1, 0, 1, 0]) (p1 := [1, 1, 1, 1, 1, 1, 1, 1, 1, 1, 1, 0, 1, 1]) (t := m37) rfl rfl rfl (by decide) s110_e284 (fun hb => ?_) (fun hb => ?_)
      · replace h := br_t hb h
        refine wseqP (p0 := [1, 1, 1, 1, 1, 1, 1, 1, 1, 1, 1, 0, 1, 0, 0]) (p1 := [1, 1, 1, 1, 1, 1, 1, 1, 1, 1, 1, 0, 1, 0, 1]) rfl rfl rfl ?_
        refine wregionT postilionlaw06_PointGroup.o14 (.tp 0 (.done)) [] rfl rfl (by kernel_rfl) (by kernel_rfl) ?_
        refine k_assign (v := .bool false) rfl rfl ?_
        refine k_end ?_; intro e285 qe285
        have s6_e285 : e285 6 = .bool false := congrFun qe285 6
        clear qe285
        refine wret rfl ?_
        have hr : r = false := (Option.some.inj h).symm
        show RetP _ _ _ _ _
        rw [hr]
        exact ret_i [.bool false] (res_tmp s6_e285 res_nil) ⟨rfl, hp.none⟩
      · replace h := br_f hb h
        refine wskip rfl ?_
        refine wseqP (p0 := [1, 1, 1, 1, 1, 1, 1, 1, 1, 1, 1, 1, 0]) (p1 := [1, 1, 1, 1, 1, 1, 1, 1, 1, 1, 1, 1, 1]) rfl rfl rfl ?_
        obtain ⟨r39, qr39, h⟩ := bd_e h
        refine postilionlaw06_PointGroup.p2_ok g1 g10 g12 g15 g18 g2 g21 g24 g27 g3 g30 g34 g8 g9 a0 a1 a2 r5 r6 r7 r11 r14 r17 r20 r23 r26 r29 r33 la0 la1 la2 lr50 lr60 lr70 lr110 lr140 lr170 lr200 lr230 lr260 lr290 lr330 ?hq0 e284 _ s7_e284 s10_e284 s12_e284 s14_e284 s18_e284 s22_e284 s24_e284 hp qr39
        case hq0 =>
          intro e290 w m40  s6_e290 hp qq
          rw [qq] at h; clear qq
          refine wret rfl ?_
          have hr : r = m40 := (Option.some.inj h).symm
          show RetP _ _ _ _ _
          rw [hr]
          exact ret_i [.bool m40] (res_tmp s6_e290 res_nil) ⟨rfl, hp.none⟩
/-! 63 postilion/postilionref05.order -/
noncomputable def postilionref05_order.o1 : Array Oper := opsC (at_ (fbody Try.f63) [0])
noncomputable def postilionref05_order.o2 : Array Oper := opsC (at_ (fbody Try.f63) [1, 0])
theorem postilionref05_order_ok  (w0 : World) (hp : Hp w0 [] w0 [] []) {r : List Int} (h : postilionref05_order.f  = some r) :
    Calls Try.prog 63 [].toArray w0 fun x w' => ∃ v, x = .returned v ∧ v = .agg (ints .u64 r).toArray ∧ r.length = 4 ∧ Hp w0 [] w' [] [] := by
  refine calls_inP Try.func63 rfl (Nat.le_of_ble_eq_true (by kernel_rfl)) (by kernel_rfl) ?_
  intro e0 qe0
  clear qe0
  unfold postilionref05_order.f at h
  refine wseqP (p0 := [0]) (p1 := [1]) rfl rfl rfl ?_
  refine wregionT postilionref05_order.o1 (.ef 0 (.done)) [] rfl rfl (by kernel_rfl) (by kernel_rfl) ?_
  refine k_alloc (ints .u64 (List.replicate 4 (0 : Int))) rfl (by kernel_rfl) hp ?_
  intro g1 w hbg1 hp
  refine k_end ?_; intro e291 qe291
  have s0_e291 : e291 0 = .pointer (some ⟨g1, 0, none⟩) := congrFun qe291 0
  clear qe291
  refine wseqP (p0 := [1, 0]) (p1 := [1, 1]) rfl rfl rfl ?_
  refine wregionT postilionref05_order.o2 (.tp 0 (.ef 1 (.done))) [1] rfl rfl (by kernel_rfl) (by kernel_rfl) ?_
  refine k_build (v := .agg (ints .u64 [6346243789798364141, 1503914060200516822, 0, 1152921504606846976]).toArray) rfl (fun _ => by kernel_rfl) ?_
  refine k_storeA (v := .agg (ints .u64 [6346243789798364141, 1503914060200516822, 0, 1152921504606846976]).toArray) 0 0 (r := ⟨g1, 0, ints .u64 (List.replicate 4 (0 : Int))⟩) (ints .u64 [6346243789798364141, 1503914060200516822, 0, 1152921504606846976]) (ints .u64 [6346243789798364141, 1503914060200516822, 0, 1152921504606846976]) rfl (n := 4) (by kernel_rfl) s0_e291 rfl rfl ((ints_length _ _).trans (rfl : List.length ([6346243789798364141, 1503914060200516822, 0, 1152921504606846976] : List Int) = 4)) (ints_one _ _) hp rfl rfl rfl (Nat.le_of_eq ((Nat.zero_add _).trans ((ints_length _ _).trans List.length_replicate).symm)) (setMany_all _ _ (((ints_length _ _).trans (rfl : List.length ([6346243789798364141, 1503914060200516822, 0, 1152921504606846976] : List Int) = 4)).trans ((ints_length _ _).trans List.length_replicate).symm)) (by decide) ?_; intro w hp
  refine k_end ?_; intro e292 qe292
  have s0_e292 : e292 0 = .pointer (some ⟨g1, 0, none⟩) := (congrFun qe292 0).trans s0_e291
  clear qe292
  obtain ⟨x2, qx2, h⟩ := lt_e h
  have lx2 : x2.length = 4 := (congrArg List.length qx2).trans (rfl : List.length ([6346243789798364141, 1503914060200516822, 0, 1152921504606846976] : List Int) = 4)
  have hp : Hp w0 [] w [⟨g1, 0, ints .u64 x2⟩] [] := by rw [qx2]; exact hp
  refine wret rfl ?_
  have hr : r = x2 := (Option.some.inj h).symm
  show RetP _ _ _ _ _
  rw [hr]
  exact ret_i [.agg (ints .u64 x2).toArray] (res_cell s0_e292 (loadVar_agg (by kernel_rfl) (by kernel_rfl) ((ints_length _ _).trans lx2) (hp.get (j := 0) rfl) rfl rfl rfl) res_nil) ⟨rfl, lx2, hp.none⟩
/-! 62 postilion/postilionref05.below -/
noncomputable def postilionref05_below.o1 : Array Oper := opsC (at_ (fbody Try.f62) [0])
noncomputable def postilionref05_below.o2 : Array Oper := opsC (at_ (fbody Try.f62) [1, 0, 0])
noncomputable def postilionref05_below.o3 : Array Oper := opsC (at_ (fbody Try.f62) [1, 0, 1, 0, 0, 0, 0])
noncomputable def postilionref05_below.o4 : Array Oper := opsC (at_ (fbody Try.f62) [1, 0, 1, 0, 0, 1, 0, 0, 0])
noncomputable def postilionref05_below.o5 : Array Oper := opsC (at_ (fbody Try.f62) [1, 0, 1, 0, 0, 1, 0, 0, 1, 0, 0])
noncomputable def postilionref05_below.o6 : Array Oper := opsC (at_ (fbody Try.f62) [1, 0, 1, 0, 0, 1, 1])
noncomputable def postilionref05_below.o7 : Array Oper := opsC (at_ (fbody Try.f62) [1, 1, 0])
theorem postilionref05_below.p1_ok {w0 : World} {Ws : List Wr} {Q : Exit → Env → World → Prop} (g1 g2 : Nat) (a0 : List Int) (a1 : List Int) (la0 : a0.length = 4) (la1 : a1.length = 4) {r : (Unit) ⊕ (Bool)} (hQ0 : ∀ (e' : Env) (w' : World) , Hp w0 Ws w' [⟨g1, 0, ints .u64 a0⟩, ⟨g2, 0, ints .u64 a1⟩] [] → r = (.inl ()) → Q (.exit 0) e' w') (hQ1 : ∀ (e' : Env) (w' : World) (z0 : Bool), e' 4 = .bool z0 → Hp w0 Ws w' [⟨g1, 0, ints .u64 a0⟩, ⟨g2, 0, ints .u64 a1⟩] [] → r = (.inr (z0)) → Q .ret e' w') : ∀ (k : Nat), ∀ (y3 : Int) (e : Env) (w : World)  (s2_e : e 2 = .pointer (some ⟨g1, 0, none⟩)) (s3_e : e 3 = .pointer (some ⟨g2, 0, none⟩)) (s5_e : e 5 = .int .i64 y3) (hp : Hp w0 Ws w [⟨g1, 0, ints .u64 a0⟩, ⟨g2, 0, ints .u64 a1⟩] []) (h : postilionref05_below.p1 k a0 a1 y3 = some r), Lp Try.prog Try.f62.ntmps (at_ (fbody Try.f62) [1, 0, 1, 0, 0]) Q k e w := by
  intro k
  induction k with
  | zero => intro y3 e w  s2_e s3_e s5_e hp h; cases h
  | succ k ih =>
    intro y3 e w  s2_e s3_e s5_e hp h
    unfold postilionref05_below.p1 at h
    show Wp _ _ _ _ _ _
    refine wseqP (p0 := [1, 0, 1, 0, 0, 0]) (p1 := [1, 0, 1, 0, 0, 1]) rfl rfl rfl ?_
    refine wseqP (p0 := [1, 0, 1, 0, 0, 0, 0]) (p1 := [1, 0, 1, 0, 0, 0, 1]) rfl rfl rfl ?_
    refine wregionT postilionref05_below.o3 (.tp 0 (.tp 1 (.done))) [] rfl rfl (by kernel_rfl) (by kernel_rfl) ?_
    refine k_move (v := .int .i64 y3) rfl s5_e ?_
    refine k_bin (X := .int .i64 y3) (Y := .int .i64 0) rfl rfl rfl rfl ?_
    refine k_end ?_; intro e295 qe295
    have s2_e295 : e295 2 = .pointer (some ⟨g1, 0, none⟩) := (congrFun qe295 2).trans s2_e
    have s3_e295 : e295 3 = .pointer (some ⟨g2, 0, none⟩) := (congrFun qe295 3).trans s3_e
    have s5_e295 : e295 5 = .int .i64 y3 := (congrFun qe295 5).trans s5_e
    have s7_e295 : e295 7 = .bool (decide (y3 ≥ 0)) := congrFun qe295 7
    clear qe295
    refine wcondP (p0 := [1, 0, 1, 0, 0, 0, 1, 0]) (p1 := [1, 0, 1, 0, 0, 0, 1, 1]) (t := (decide (y3 ≥ 0))) rfl rfl rfl (by decide) s7_e295 (fun hb => ?_) (fun hb => ?_)
    · replace h := br_t hb h
      refine wskip rfl ?_
      refine wseqP (p0 := [1, 0, 1, 0, 0, 1, 0]) (p1 := [1, 0, 1, 0, 0, 1, 1]) rfl rfl rfl ?_
      refine wblockP (p0 := [1, 0, 1, 0, 0, 1, 0, 0]) 1 rfl rfl ?_
      refine wseqP (p0 := [1, 0, 1, 0, 0, 1, 0, 0, 0]) (p1 := [1, 0, 1, 0, 0, 1, 0, 0, 1]) rfl rfl rfl ?_
      refine wregionM postilionref05_below.o4 (.tp 0 (.tp 1 (.tk 2 (.tp 3 (.tp 4 (.tk 5 (.tp 6 (.done)))))))) [] [(0, 0, 127), (1, 1, 127), (2, 2, 0), (0, 0, 127), (8, 8, 127), (16, 16, 0), (36, 36, 127)] rfl rfl (by kernel_rfl) (by kernel_rfl) (Nat.le_of_ble_eq_true (by kernel_rfl)) (by kernel_rfl) (by kernel_rfl) (by kernel_rfl) ?_
      have hp := hp.drew
      refine k_move (v := .int .i64 y3) rfl s5_e295 ?_
      obtain ⟨c4, h⟩ := chk_e h
      refine k_indexA (n := 4) (s := 1) (j := y3) rfl Try.underlying50 (by kernel_rfl) s2_e295 rfl c4 ?_
      refine k_load (j := (y3 : Int).toNat) (v := .int .u64 (a0.getD (y3 : Int).toNat 0)) rfl (by kernel_rfl) rfl (hp.get (j := 0) rfl) rfl (show 0 + (y3 : Int).toNat * 1 = 0 + (y3 : Int).toNat by omega) (ints_get (idx_lt c4 la0)) ?_
      refine k_move (v := .int .i64 y3) rfl s5_e295 ?_
      refine k_indexA (n := 4) (s := 1) (j := y3) rfl Try.underlying50 (by kernel_rfl) s3_e295 rfl c4 ?_
      refine k_load (j := (y3 : Int).toNat) (v := .int .u64 (a1.getD (y3 : Int).toNat 0)) rfl (by kernel_rfl) rfl (hp.get (j := 1) rfl) rfl (show 0 + (y3 : Int).toNat * 1 = 0 + (y3 : Int).toNat by omega) (ints_get (idx_lt c4 la1)) ?_
      refine k_bin (X := .int .u64 (a0.getD (y3 : Int).toNat 0)) (Y := .int .u64 (a1.getD (y3 : Int).toNat 0)) rfl rfl rfl rfl ?_
      refine k_end ?_; intro e296 qe296
      have s2_e296 : e296 2 = .pointer (some ⟨g1, 0, none⟩) := (congrFun qe296 2).trans s2_e295
      have s3_e296 : e296 3 = .pointer (some ⟨g2, 0, none⟩) := (congrFun qe296 3).trans s3_e295
      have s5_e296 : e296 5 = .int .i64 y3 := (congrFun qe296 5).trans s5_e295
      obtain ⟨t5, qt5, h⟩ := lt_e h
      have s16_e296 : e296 16 = .bool t5 := (congrFun qe296 16).trans (congrArg Value.bool qt5.symm)
      clear qe296
      refine wcondP (p0 := [1, 0, 1, 0, 0, 1, 0, 0, 1, 0]) (p1 := [1, 0, 1, 0, 0, 1, 0, 0, 1, 1]) (t := t5) rfl rfl rfl (by decide) s16_e296 (fun hb => ?_) (fun hb => ?_)
      · replace h := br_t hb h
        refine wseqP (p0 := [1, 0, 1, 0, 0, 1, 0, 0, 1, 0, 0]) (p1 := [1, 0, 1, 0, 0, 1, 0, 0, 1, 0, 1]) rfl rfl rfl ?_
        refine wregionM postilionref05_below.o5 (.tp 0 (.tp 1 (.tk 2 (.tp 3 (.tp 4 (.tk 5 (.tp 6 (.tp 7 (.done))))))))) [] [(0, 0, 255), (1, 1, 255), (2, 2, 0), (0, 0, 255), (8, 8, 255), (16, 16, 0), (36, 36, 255), (127, 64, 255)] rfl rfl (by kernel_rfl) (by kernel_rfl) (Nat.le_of_ble_eq_true (by kernel_rfl)) (by kernel_rfl) (by kernel_rfl) (by kernel_rfl) ?_
        have hp := hp.drew
        refine k_move (v := .int .i64 y3) rfl s5_e296 ?_
        refine k_indexA (n := 4) (s := 1) (j := y3) rfl Try.underlying50 (by kernel_rfl) s2_e296 rfl c4 ?_
        refine k_load (j := (y3 : Int).toNat) (v := .int .u64 (a0.getD (y3 : Int).toNat 0)) rfl (by kernel_rfl) rfl (hp.get (j := 0) rfl) rfl (show 0 + (y3 : Int).toNat * 1 = 0 + (y3 : Int).toNat by omega) (ints_get (idx_lt c4 la0)) ?_
        refine k_move (v := .int .i64 y3) rfl s5_e296 ?_
        refine k_indexA (n := 4) (s := 1) (j := y3) rfl Try.underlying50 (by kernel_rfl) s3_e296 rfl c4 ?_
        refine k_load (j := (y3 : Int).toNat) (v := .int .u64 (a1.getD (y3 : Int).toNat 0)) rfl (by kernel_rfl) rfl (hp.get (j := 1) rfl) rfl (show 0 + (y3 : Int).toNat * 1 = 0 + (y3 : Int).toNat by omega) (ints_get (idx_lt c4 la1)) ?_
        refine k_bin (X := .int .u64 (a0.getD (y3 : Int).toNat 0)) (Y := .int .u64 (a1.getD (y3 : Int).toNat 0)) rfl rfl rfl rfl ?_
        refine k_assign (v := .bool (decide ((a0.getD (y3 : Int).toNat 0) < (a1.getD (y3 : Int).toNat 0)))) rfl rfl ?_
        refine k_end ?_; intro e297 qe297
        obtain ⟨t6, qt6, h⟩ := lt_e h
        have s4_e297 : e297 4 = .bool t6 := (congrFun qe297 4).trans (congrArg Value.bool qt6.symm)
        clear qe297
        refine wret rfl ?_
        exact hQ1 _ _ t6  s4_e297 (hp.drop (L' := [⟨g1, 0, ints .u64 a0⟩, ⟨g2, 0, ints .u64 a1⟩]) (List.Sublist.refl _)) (Option.some.inj h).symm
      · replace h := br_f hb h
        refine wskip rfl ?_
        refine wregionT postilionref05_below.o6 (.tp 0 (.tp 1 (.tp 2 (.done)))) [] rfl rfl (by kernel_rfl) (by kernel_rfl) ?_
        refine k_move (v := .int .i64 y3) rfl s5_e296 ?_
        refine k_bin (X := .int .i64 y3) (Y := .int .i64 1) rfl rfl rfl rfl ?_
        refine k_assign (v := .int .i64 (IntKind.i64.wrap (y3 - 1))) rfl rfl ?_
        refine k_end ?_; intro e298 qe298
        have s2_e298 : e298 2 = .pointer (some ⟨g1, 0, none⟩) := (congrFun qe298 2).trans s2_e296
        have s3_e298 : e298 3 = .pointer (some ⟨g2, 0, none⟩) := (congrFun qe298 3).trans s3_e296
        obtain ⟨x7, qx7, h⟩ := lt_e h
        have s5_e298 : e298 5 = .int .i64 x7 := (congrFun qe298 5).trans (congrArg (Value.int .i64) qx7.symm)
        clear qe298
        exact ih x7 _ _  s2_e298 s3_e298 s5_e298 (hp.drop (L' := [⟨g1, 0, ints .u64 a0⟩, ⟨g2, 0, ints .u64 a1⟩]) (List.Sublist.refl _)) h
    · replace h := br_f hb h
      refine wexit rfl ?_
      exact hQ0 _ _    (hp.drop (L' := [⟨g1, 0, ints .u64 a0⟩, ⟨g2, 0, ints .u64 a1⟩]) (List.Sublist.refl _)) (Option.some.inj h).symm
theorem postilionref05_below_ok (k : Nat) (a0 : List Int) (a1 : List Int) (la0 : a0.length = 4) (la1 : a1.length = 4) (w0 : World) (hp : Hp w0 [] w0 [] []) {r : Bool} (h : postilionref05_below.f k a0 a1 = some r) :
    Calls Try.prog 62 [.agg (ints .u64 a0).toArray, .agg (ints .u64 a1).toArray].toArray w0 fun x w' => ∃ v, x = .returned v ∧ v = .bool r ∧ Hp w0 [] w' [] [] := by
  refine calls_inP Try.func62 rfl (Nat.le_of_ble_eq_true (by kernel_rfl)) (by kernel_rfl) ?_
  intro e0 qe0
  have s0_e0 : e0 0 = .agg (ints .u64 a0).toArray := congrFun qe0 0
  have s1_e0 : e0 1 = .agg (ints .u64 a1).toArray := congrFun qe0 1
  clear qe0
  unfold postilionref05_below.f at h
  refine wseqP (p0 := [0]) (p1 := [1]) rfl rfl rfl ?_
  refine wregionT postilionref05_below.o1 (.ef 0 (.ef 1 (.tp 2 (.done)))) [] rfl rfl (by kernel_rfl) (by kernel_rfl) ?_
  refine k_box (v := .agg (ints .u64 a0).toArray) (ints .u64 a0) rfl s0_e0 rfl hp ?_
  intro g1 w hbg1 hp
  refine k_box (v := .agg (ints .u64 a1).toArray) (ints .u64 a1) rfl s1_e0 rfl hp ?_
  intro g2 w hbg2 hp
  refine k_assign (v := .bool false) rfl rfl ?_
  refine k_end ?_; intro e293 qe293
  have s2_e293 : e293 2 = .pointer (some ⟨g1, 0, none⟩) := congrFun qe293 2
  have s3_e293 : e293 3 = .pointer (some ⟨g2, 0, none⟩) := congrFun qe293 3
  clear qe293
  refine wseqP (p0 := [1, 0]) (p1 := [1, 1]) rfl rfl rfl ?_
  refine wseqP (p0 := [1, 0, 0]) (p1 := [1, 0, 1]) rfl rfl rfl ?_
  refine wregionT postilionref05_below.o2 (.tp 0 (.done)) [] rfl rfl (by kernel_rfl) (by kernel_rfl) ?_
  refine k_assign (v := .int .i64 3) rfl rfl ?_
  refine k_end ?_; intro e294 qe294
  have s2_e294 : e294 2 = .pointer (some ⟨g1, 0, none⟩) := (congrFun qe294 2).trans s2_e293
  have s3_e294 : e294 3 = .pointer (some ⟨g2, 0, none⟩) := (congrFun qe294 3).trans s3_e293
  have s5_e294 : e294 5 = .int .i64 3 := congrFun qe294 5
  clear qe294
  refine wblockP (p0 := [1, 0, 1, 0]) 0 rfl rfl ?_
  obtain ⟨r8, qr8, h⟩ := bd_e h
  refine wloopP (p0 := [1, 0, 1, 0, 0]) k rfl rfl (postilionref05_below.p1_ok g1 g2 a0 a1 la0 la1 ?hq0 ?hq1 k 3 e294 _  s2_e294 s3_e294 s5_e294 hp qr8)
  case hq0 =>
    intro e299 w    hp qq
    rw [qq] at h; clear qq
    refine wseqP (p0 := [1, 1, 0]) (p1 := [1, 1, 1]) rfl rfl rfl ?_
    refine wregionT postilionref05_below.o7 (.tp 0 (.done)) [] rfl rfl (by kernel_rfl) (by kernel_rfl) ?_
    refine k_assign (v := .bool false) rfl rfl ?_
    refine k_end ?_; intro e300 qe300
    have s4_e300 : e300 4 = .bool false := congrFun qe300 4
    clear qe300
    refine wret rfl ?_
    have hr : r = false := (Option.some.inj h).symm
    show RetP _ _ _ _ _
    rw [hr]
    exact ret_i [.bool false] (res_tmp s4_e300 res_nil) ⟨rfl, hp.none⟩
  case hq1 =>
    intro e301 w m9  s4_e301 hp qq
    rw [qq] at h; clear qq
    have hr : r = m9 := (Option.some.inj h).symm
    show RetP _ _ _ _ _
    rw [hr]
    exact ret_i [.bool m9] (res_tmp s4_e301 res_nil) ⟨rfl, hp.none⟩
/-! 64 postilion/postilionref05.less -/
noncomputable def postilionref05_less.o1 : Array Oper := opsC (at_ (fbody Try.f64) [0])
noncomputable def postilionref05_less.o2 : Array Oper := opsC (at_ (fbody Try.f64) [1, 0])
noncomputable def postilionref05_less.o3 : Array Oper := opsC (at_ (fbody Try.f64) [1, 1, 0])
noncomputable def postilionref05_less.o4 : Array Oper := opsC (at_ (fbody Try.f64) [1, 1, 1, 0, 0])
noncomputable def postilionref05_less.o5 : Array Oper := opsC (at_ (fbody Try.f64) [1, 1, 1, 0, 1, 0, 0, 0])
noncomputable def postilionref05_less.o6 : Array Oper := opsC (at_ (fbody Try.f64) [1, 1, 1, 0, 1, 0, 0, 1, 1, 0, 0, 0])
noncomputable def postilionref05_less.o7 : Array Oper := opsC (at_ (fbody Try.f64) [1, 1, 1, 0, 1, 0, 0, 1, 1, 0, 0, 1])
noncomputable def postilionref05_less.o8 : Array Oper := opsC (at_ (fbody Try.f64) [1, 1, 1, 0, 1, 0, 0, 1, 1, 1])
noncomputable def postilionref05_less.o9 : Array Oper := opsC (at_ (fbody Try.f64) [1, 1, 1, 1, 0])
theorem postilionref05_less.p1_ok {w0 : World} {Ws : List Wr} {Q : Exit → Env → World → Prop} (g1 g2 g3 g4 : Nat) (a0 : List Int) (a1 : List Int) (la0 : a0.length = 4) (la1 : a1.length = 4) {r : List Int} (hQ0 : ∀ (e' : Env) (w' : World) (z0 : List Int), z0.length = 4 → e' 4 = .pointer (some ⟨g3, 0, none⟩) → e' 5 = .pointer (some ⟨g4, 0, none⟩) → Hp w0 Ws w' [⟨g1, 0, ints .u64 a0⟩, ⟨g2, 0, ints .u64 a1⟩, ⟨g3, 0, ints .u64 (List.replicate 4 (0 : Int))⟩, ⟨g4, 0, ints .u64 z0⟩] [] → r = (z0) → Q (.exit 0) e' w') : ∀ (k : Nat), ∀ (y5 : List Int) (y6 : Int) (y7 : Int) (e : Env) (w : World) (ly5 : y5.length = 4) (s2_e : e 2 = .pointer (some ⟨g1, 0, none⟩)) (s3_e : e 3 = .pointer (some ⟨g2, 0, none⟩)) (s4_e : e 4 = .pointer (some ⟨g3, 0, none⟩)) (s5_e : e 5 = .pointer (some ⟨g4, 0, none⟩)) (s6_e : e 6 = .int .u64 y6) (s8_e : e 8 = .int .i64 y7) (hp : Hp w0 Ws w [⟨g1, 0, ints .u64 a0⟩, ⟨g2, 0, ints .u64 a1⟩, ⟨g3, 0, ints .u64 (List.replicate 4 (0 : Int))⟩, ⟨g4, 0, ints .u64 y5⟩] []) (h : postilionref05_less.p1 k a0 a1 y5 y6 y7 = some r), Lp Try.prog Try.f64.ntmps (at_ (fbody Try.f64) [1, 1, 1, 0, 1, 0, 0]) Q k e w := by
  intro k
  induction k with
  | zero => intro y5 y6 y7 e w ly5 s2_e s3_e s4_e s5_e s6_e s8_e hp h; cases h
  | succ k ih =>
    intro y5 y6 y7 e w ly5 s2_e s3_e s4_e s5_e s6_e s8_e hp h
    unfold postilionref05_less.p1 at h
    show Wp _ _ _ _ _ _
    refine wseqP (p0 := [1, 1, 1, 0, 1, 0, 0, 0]) (p1 := [1, 1, 1, 0, 1, 0, 0, 1]) rfl rfl rfl ?_
    refine wregionT postilionref05_less.o5 (.tp 0 (.done)) [] rfl rfl (by kernel_rfl) (by kernel_rfl) ?_
    refine k_bin (X := .int .i64 y7) (Y := .int .i64 4) rfl s8_e rfl rfl ?_
    refine k_end ?_; intro e306 qe306
    have s2_e306 : e306 2 = .pointer (some ⟨g1, 0, none⟩) := (congrFun qe306 2).trans s2_e
    have s3_e306 : e306 3 = .pointer (some ⟨g2, 0, none⟩) := (congrFun qe306 3).trans s3_e
    have s4_e306 : e306 4 = .pointer (some ⟨g3, 0, none⟩) := (congrFun qe306 4).trans s4_e
    have s5_e306 : e306 5 = .pointer (some ⟨g4, 0, none⟩) := (congrFun qe306 5).trans s5_e
    have s6_e306 : e306 6 = .int .u64 y6 := (congrFun qe306 6).trans s6_e
    have s8_e306 : e306 8 = .int .i64 y7 := (congrFun qe306 8).trans s8_e
    have s9_e306 : e306 9 = .bool (decide (y7 < 4)) := congrFun qe306 9
    clear qe306
    refine wseqP (p0 := [1, 1, 1, 0, 1, 0, 0, 1, 0]) (p1 := [1, 1, 1, 0, 1, 0, 0, 1, 1]) rfl rfl rfl ?_
    refine wcondP (p0 := [1, 1, 1, 0, 1, 0, 0, 1, 0, 0]) (p1 := [1, 1, 1, 0, 1, 0, 0, 1, 0, 1]) (t := (decide (y7 < 4))) rfl rfl rfl (by decide) s9_e306 (fun hb => ?_) (fun hb => ?_)
    · replace h := br_t hb h
      refine wskip rfl ?_
      refine wseqP (p0 := [1, 1, 1, 0, 1, 0, 0, 1, 1, 0]) (p1 := [1, 1, 1, 0, 1, 0, 0, 1, 1, 1]) rfl rfl rfl ?_
      refine wblockP (p0 := [1, 1, 1, 0, 1, 0, 0, 1, 1, 0, 0]) 1 rfl rfl ?_
      refine wseqP (p0 := [1, 1, 1, 0, 1, 0, 0, 1, 1, 0, 0, 0]) (p1 := [1, 1, 1, 0, 1, 0, 0, 1, 1, 0, 0, 1]) rfl rfl rfl ?_
      refine wregionT postilionref05_less.o6 (.tp 0 (.tp 1 (.done))) [] rfl rfl (by kernel_rfl) (by kernel_rfl) ?_
      refine k_move (v := .int .i64 y7) rfl s8_e306 ?_
      refine k_assign (v := .int .i64 y7) rfl rfl ?_
      refine k_end ?_; intro e307 qe307
      have s2_e307 : e307 2 = .pointer (some ⟨g1, 0, none⟩) := (congrFun qe307 2).trans s2_e306
      have s3_e307 : e307 3 = .pointer (some ⟨g2, 0, none⟩) := (congrFun qe307 3).trans s3_e306
      have s4_e307 : e307 4 = .pointer (some ⟨g3, 0, none⟩) := (congrFun qe307 4).trans s4_e306
      have s5_e307 : e307 5 = .pointer (some ⟨g4, 0, none⟩) := (congrFun qe307 5).trans s5_e306
      have s6_e307 : e307 6 = .int .u64 y6 := (congrFun qe307 6).trans s6_e306
      have s7_e307 : e307 7 = .int .i64 y7 := congrFun qe307 7
      have s8_e307 : e307 8 = .int .i64 y7 := (congrFun qe307 8).trans s8_e306
      clear qe307
      refine wregionM postilionref05_less.o7 (.tp 0 (.tp 1 (.tp 2 (.tk 3 (.tp 4 (.tp 5 (.tk 6 (.tp 7 (.tp 8 (.tp 9 (.tp 10 (.tp 11 (.tp 12 (.ef 13 (.tp 14 (.done)))))))))))))))) [13] [(0, 0, 32767), (0, 0, 32767), (2, 2, 32767), (4, 4, 0), (0, 0, 32767), (16, 16, 32767), (32, 32, 0), (0, 0, 32767), (200, 200, 32767), (256, 256, 32767), (512, 512, 32767), (512, 512, 32767), (2047, 1, 32767), (6143, 32767, 32767), (16383, 2176, 32767)] rfl rfl (by kernel_rfl) (by kernel_rfl) (Nat.le_of_ble_eq_true (by kernel_rfl)) (by kernel_rfl) (by kernel_rfl) (by kernel_rfl) ?_
      have hp := hp.drew
      refine k_move (v := .int .i64 y7) rfl s7_e307 ?_
      refine k_move (v := .int .i64 y7) rfl s7_e307 ?_
      obtain ⟨c8, h⟩ := chk_e h
      refine k_indexA (n := 4) (s := 1) (j := y7) rfl Try.underlying50 (by kernel_rfl) s2_e307 rfl c8 ?_
      refine k_load (j := (y7 : Int).toNat) (v := .int .u64 (a0.getD (y7 : Int).toNat 0)) rfl (by kernel_rfl) rfl (hp.get (j := 0) rfl) rfl (show 0 + (y7 : Int).toNat * 1 = 0 + (y7 : Int).toNat by omega) (ints_get (idx_lt c8 la0)) ?_
      refine k_move (v := .int .i64 y7) rfl s7_e307 ?_
      refine k_indexA (n := 4) (s := 1) (j := y7) rfl Try.underlying50 (by kernel_rfl) s3_e307 rfl c8 ?_
      refine k_load (j := (y7 : Int).toNat) (v := .int .u64 (a1.getD (y7 : Int).toNat 0)) rfl (by kernel_rfl) rfl (hp.get (j := 1) rfl) rfl (show 0 + (y7 : Int).toNat * 1 = 0 + (y7 : Int).toNat by omega) (ints_get (idx_lt c8 la1)) ?_
      refine k_move (v := .int .u64 y6) rfl s6_e307 ?_
      obtain ⟨c9, h⟩ := chk_e h
      refine k_ext [.int .u64 (a0.getD (y7 : Int).toNat 0), .int .u64 (a1.getD (y7 : Int).toNat 0), .int .u64 y6] rfl ext85 (args3 rfl rfl rfl) (fun w' => run_sub64 (a0.getD (y7 : Int).toNat 0) (a1.getD (y7 : Int).toNat 0) y6 c9.1 c9.2.1 c9.2.2.1 c9.2.2.2 w') ?_
      refine k_move (v := .tuple #[.int .u64 (((a0.getD (y7 : Int).toNat 0) - (a1.getD (y7 : Int).toNat 0) - y6) % 18446744073709551616), .int .u64 (if (a0.getD (y7 : Int).toNat 0) < (a1.getD (y7 : Int).toNat 0) + y6 then 1 else 0)]) rfl rfl ?_
      refine k_extract (v := .int .u64 (((a0.getD (y7 : Int).toNat 0) - (a1.getD (y7 : Int).toNat 0) - y6) % 18446744073709551616)) rfl rfl rfl ?_
      refine k_extract (v := .int .u64 (if (a0.getD (y7 : Int).toNat 0) < (a1.getD (y7 : Int).toNat 0) + y6 then 1 else 0)) rfl rfl rfl ?_
      refine k_indexA (n := 4) (s := 1) (j := y7) rfl Try.underlying50 (by kernel_rfl) s5_e307 rfl c8 ?_
      refine k_store (v := .int .u64 (((a0.getD (y7 : Int).toNat 0) - (a1.getD (y7 : Int).toNat 0) - y6) % 18446744073709551616)) 3 (y7 : Int).toNat (r := ⟨g4, 0, ints .u64 y5⟩) rfl (by kernel_rfl) rfl rfl rfl hp rfl rfl (show 0 + (y7 : Int).toNat * 1 = 0 + (y7 : Int).toNat by omega) (Nat.lt_of_lt_of_eq (idx_lt c8 ly5) (ints_length _ _).symm) (by decide) ?_; intro w hp; rw [ints_set] at hp
      refine k_assign (v := .int .u64 (if (a0.getD (y7 : Int).toNat 0) < (a1.getD (y7 : Int).toNat 0) + y6 then 1 else 0)) rfl rfl ?_
      refine k_end ?_; intro e308 qe308
      have s2_e308 : e308 2 = .pointer (some ⟨g1, 0, none⟩) := (congrFun qe308 2).trans s2_e307
      have s3_e308 : e308 3 = .pointer (some ⟨g2, 0, none⟩) := (congrFun qe308 3).trans s3_e307
      have s4_e308 : e308 4 = .pointer (some ⟨g3, 0, none⟩) := (congrFun qe308 4).trans s4_e307
      have s5_e308 : e308 5 = .pointer (some ⟨g4, 0, none⟩) := (congrFun qe308 5).trans s5_e307
      obtain ⟨x10, qx10, h⟩ := lt_e h
      have s6_e308 : e308 6 = .int .u64 x10 := (congrFun qe308 6).trans (congrArg (Value.int .u64) qx10.symm)
      have s8_e308 : e308 8 = .int .i64 y7 := (congrFun qe308 8).trans s8_e307
      clear qe308
      obtain ⟨x11, qx11, h⟩ := lt_e h
      have lx11 : x11.length = 4 := (congrArg List.length qx11).trans (List.length_set.trans ly5)
      have hp : Hp w0 Ws w [⟨g1, 0, ints .u64 a0⟩, ⟨g2, 0, ints .u64 a1⟩, ⟨g3, 0, ints .u64 (List.replicate 4 (0 : Int))⟩, ⟨g4, 0, ints .u64 x11⟩] [] := by rw [qx11]; exact hp
      refine wregionT postilionref05_less.o8 (.tp 0 (.tp 1 (.done))) [] rfl rfl (by kernel_rfl) (by kernel_rfl) ?_
      refine k_bin (X := .int .i64 y7) (Y := .int .i64 1) rfl s8_e308 rfl rfl ?_
      refine k_move (v := .int .i64 (IntKind.i64.wrap (y7 + 1))) rfl rfl ?_
      refine k_end ?_; intro e309 qe309
      have s2_e309 : e309 2 = .pointer (some ⟨g1, 0, none⟩) := (congrFun qe309 2).trans s2_e308
      have s3_e309 : e309 3 = .pointer (some ⟨g2, 0, none⟩) := (congrFun qe309 3).trans s3_e308
      have s4_e309 : e309 4 = .pointer (some ⟨g3, 0, none⟩) := (congrFun qe309 4).trans s4_e308
      have s5_e309 : e309 5 = .pointer (some ⟨g4, 0, none⟩) := (congrFun qe309 5).trans s5_e308
      have s6_e309 : e309 6 = .int .u64 x10 := (congrFun qe309 6).trans s6_e308
      obtain ⟨x12, qx12, h⟩ := lt_e h
      have s8_e309 : e309 8 = .int .i64 x12 := (congrFun qe309 8).trans (congrArg (Value.int .i64) qx12.symm)
      clear qe309
      exact ih x11 x10 x12 _ _ lx11 s2_e309 s3_e309 s4_e309 s5_e309 s6_e309 s8_e309 (hp.drop (L' := [⟨g1, 0, ints .u64 a0⟩, ⟨g2, 0, ints .u64 a1⟩, ⟨g3, 0, ints .u64 (List.replicate 4 (0 : Int))⟩, ⟨g4, 0, ints .u64 x11⟩]) (List.Sublist.refl _)) h
    · replace h := br_f hb h
      refine wexit rfl ?_
      exact hQ0 _ _ y5 ly5 s4_e306 s5_e306 (hp.drop (L' := [⟨g1, 0, ints .u64 a0⟩, ⟨g2, 0, ints .u64 a1⟩, ⟨g3, 0, ints .u64 (List.replicate 4 (0 : Int))⟩, ⟨g4, 0, ints .u64 y5⟩]) (List.Sublist.refl _)) (Option.some.inj h).symm
theorem postilionref05_less_ok (k : Nat) (a0 : List Int) (a1 : List Int) (la0 : a0.length = 4) (la1 : a1.length = 4) (w0 : World) (hp : Hp w0 [] w0 [] []) {r : List Int} (h : postilionref05_less.f k a0 a1 = some r) :
    Calls Try.prog 64 [.agg (ints .u64 a0).toArray, .agg (ints .u64 a1).toArray].toArray w0 fun x w' => ∃ v, x = .returned v ∧ v = .agg (ints .u64 r).toArray ∧ r.length = 4 ∧ Hp w0 [] w' [] [] := by
  refine calls_inP Try.func64 rfl (Nat.le_of_ble_eq_true (by kernel_rfl)) (by kernel_rfl) ?_
  intro e0 qe0
  have s0_e0 : e0 0 = .agg (ints .u64 a0).toArray := congrFun qe0 0
  have s1_e0 : e0 1 = .agg (ints .u64 a1).toArray := congrFun qe0 1
  clear qe0
  unfold postilionref05_less.f at h
  refine wseqP (p0 := [0]) (p1 := [1]) rfl rfl rfl ?_
  refine wregionT postilionref05_less.o1 (.ef 0 (.ef 1 (.ef 2 (.done)))) [] rfl rfl (by kernel_rfl) (by kernel_rfl) ?_
  refine k_box (v := .agg (ints .u64 a0).toArray) (ints .u64 a0) rfl s0_e0 rfl hp ?_
  intro g1 w hbg1 hp
  refine k_box (v := .agg (ints .u64 a1).toArray) (ints .u64 a1) rfl s1_e0 rfl hp ?_
  intro g2 w hbg2 hp
  refine k_alloc (ints .u64 (List.replicate 4 (0 : Int))) rfl (by kernel_rfl) hp ?_
  intro g3 w hbg3 hp
  refine k_end ?_; intro e302 qe302
  have s2_e302 : e302 2 = .pointer (some ⟨g1, 0, none⟩) := congrFun qe302 2
  have s3_e302 : e302 3 = .pointer (some ⟨g2, 0, none⟩) := congrFun qe302 3
  have s4_e302 : e302 4 = .pointer (some ⟨g3, 0, none⟩) := congrFun qe302 4
  clear qe302
  refine wseqP (p0 := [1, 0]) (p1 := [1, 1]) rfl rfl rfl ?_
  refine wregionT postilionref05_less.o2 (.ef 0 (.done)) [] rfl rfl (by kernel_rfl) (by kernel_rfl) ?_
  refine k_alloc (ints .u64 (List.replicate 4 (0 : Int))) rfl (by kernel_rfl) hp ?_
  intro g4 w hbg4 hp
  refine k_end ?_; intro e303 qe303
  have s2_e303 : e303 2 = .pointer (some ⟨g1, 0, none⟩) := (congrFun qe303 2).trans s2_e302
  have s3_e303 : e303 3 = .pointer (some ⟨g2, 0, none⟩) := (congrFun qe303 3).trans s3_e302
  have s4_e303 : e303 4 = .pointer (some ⟨g3, 0, none⟩) := (congrFun qe303 4).trans s4_e302
  have s5_e303 : e303 5 = .pointer (some ⟨g4, 0, none⟩) := congrFun qe303 5
  clear qe303
  refine wseqP (p0 := [1, 1, 0]) (p1 := [1, 1, 1]) rfl rfl rfl ?_
  refine wregionT postilionref05_less.o3 (.tp 0 (.done)) [] rfl rfl (by kernel_rfl) (by kernel_rfl) ?_
  refine k_assign (v := .int .u64 0) rfl rfl ?_
  refine k_end ?_; intro e304 qe304
  have s2_e304 : e304 2 = .pointer (some ⟨g1, 0, none⟩) := (congrFun qe304 2).trans s2_e303
  have s3_e304 : e304 3 = .pointer (some ⟨g2, 0, none⟩) := (congrFun qe304 3).trans s3_e303
  have s4_e304 : e304 4 = .pointer (some ⟨g3, 0, none⟩) := (congrFun qe304 4).trans s4_e303
  have s5_e304 : e304 5 = .pointer (some ⟨g4, 0, none⟩) := (congrFun qe304 5).trans s5_e303
  have s6_e304 : e304 6 = .int .u64 0 := congrFun qe304 6
  clear qe304
  refine wseqP (p0 := [1, 1, 1, 0]) (p1 := [1, 1, 1, 1]) rfl rfl rfl ?_
  refine wseqP (p0 := [1, 1, 1, 0, 0]) (p1 := [1, 1, 1, 0, 1]) rfl rfl rfl ?_
  refine wregionT postilionref05_less.o4 (.tp 0 (.done)) [] rfl rfl (by kernel_rfl) (by kernel_rfl) ?_
  refine k_move (v := .int .i64 0) rfl rfl ?_
  refine k_end ?_; intro e305 qe305
  have s2_e305 : e305 2 = .pointer (some ⟨g1, 0, none⟩) := (congrFun qe305 2).trans s2_e304
  have s3_e305 : e305 3 = .pointer (some ⟨g2, 0, none⟩) := (congrFun qe305 3).trans s3_e304
  have s4_e305 : e305 4 = .pointer (some ⟨g3, 0, none⟩) := (congrFun qe305 4).trans s4_e304
  have s5_e305 : e305 5 = .pointer (some ⟨g4, 0, none⟩) := (congrFun qe305 5).trans s5_e304
  have s6_e305 : e305 6 = .int .u64 0 := (congrFun qe305 6).trans s6_e304
  have s8_e305 : e305 8 = .int .i64 0 := congrFun qe305 8
  clear qe305
  refine wblockP (p0 := [1, 1, 1, 0, 1, 0]) 0 rfl rfl ?_
  obtain ⟨r13, qr13, h⟩ := bd_e h
  refine wloopP (p0 := [1, 1, 1, 0, 1, 0, 0]) k rfl rfl (postilionref05_less.p1_ok g1 g2 g3 g4 a0 a1 la0 la1 ?hq0 k (List.replicate 4 (0 : Int)) 0 0 e305 _ List.length_replicate s2_e305 s3_e305 s4_e305 s5_e305 s6_e305 s8_e305 hp qr13)
  case hq0 =>
    intro e310 w m14 lm14 s4_e310 s5_e310 hp qq
    rw [qq] at h; clear qq
    refine wseqP (p0 := [1, 1, 1, 1, 0]) (p1 := [1, 1, 1, 1, 1]) rfl rfl rfl ?_
    refine wregionT postilionref05_less.o9 (.tk 0 (.ef 1 (.done))) [1] rfl rfl (by kernel_rfl) (by kernel_rfl) ?_
    refine k_loadA (n := 4) (xs := ints .u64 m14) 0 rfl (by kernel_rfl) (by kernel_rfl) s5_e310 (hp.get (j := 3) rfl) rfl rfl ((ints_length _ _).trans lm14) (fun m v hm => by rw [Nat.zero_add]; exact hm) ?_
    refine k_storeA (v := .agg (ints .u64 m14).toArray) 2 0 (r := ⟨g3, 0, ints .u64 (List.replicate 4 (0 : Int))⟩) (ints .u64 m14) (ints .u64 m14) rfl (n := 4) (by kernel_rfl) s4_e310 rfl rfl ((ints_length _ _).trans lm14) (ints_one _ _) hp rfl rfl rfl (Nat.le_of_eq ((Nat.zero_add _).trans ((ints_length _ _).trans List.length_replicate).symm)) (setMany_all _ _ (((ints_length _ _).trans lm14).trans ((ints_length _ _).trans List.length_replicate).symm)) (by decide) ?_; intro w hp
    refine k_end ?_; intro e311 qe311
    have s4_e311 : e311 4 = .pointer (some ⟨g3, 0, none⟩) := (congrFun qe311 4).trans s4_e310
    clear qe311
    refine wret rfl ?_
    have hr : r = m14 := (Option.some.inj h).symm
    show RetP _ _ _ _ _
    rw [hr]
    exact ret_i [.agg (ints .u64 m14).toArray] (res_cell s4_e311 (loadVar_agg (by kernel_rfl) (by kernel_rfl) ((ints_length _ _).trans lm14) (hp.get (j := 2) rfl) rfl rfl rfl) res_nil) ⟨rfl, lm14, hp.none⟩
end Go.Proofs.Ytalnjdcidmkajaa
