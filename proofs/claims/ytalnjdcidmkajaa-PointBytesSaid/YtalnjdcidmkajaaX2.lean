/-
  The walks: each function of the program form returns what its plain definition computes. Printed by my own program.
  Conditions: none; every function is taken as the given program's form has it.
-/
import Derived.Test.YtalnjdcidmkajaaProg
import Derived.Test.YtalnjdcidmkajaaX1
namespace Go.Proofs.Ytalnjdcidmkajaa
open Go Go.Gx Go.RowKit
set_option linter.unusedVariables false
set_option maxRecDepth 100000
/-! 32 (postilion/point.Point).Bytes -/
noncomputable def point_Point_Bytes.o1 : Array Oper := opsC (at_ (fbody Try.f32) [0])
noncomputable def point_Point_Bytes.o2 : Array Oper := opsC (at_ (fbody Try.f32) [1, 0])
noncomputable def point_Point_Bytes.o3 : Array Oper := opsC (at_ (fbody Try.f32) [1, 1, 0])
noncomputable def point_Point_Bytes.o4 : Array Oper := opsC (at_ (fbody Try.f32) [1, 1, 1, 0, 0])
noncomputable def point_Point_Bytes.o5 : Array Oper := opsC (at_ (fbody Try.f32) [1, 1, 1, 0, 1, 0])
noncomputable def point_Point_Bytes.o6 : Array Oper := opsC (at_ (fbody Try.f32) [1, 1, 1, 1, 0])
theorem point_Point_Bytes.p1_ok {w0 : World} {Ws : List Wr} {Q : Exit → Env → World → Prop} (g1 g2 g4 g7 : Nat) (r9 : Bool) (a0 : List Int) (r3 : List Int) (r6 : List Int) (la0 : a0.length = 20) (lr30 : r3.length = 5) (lr60 : r6.length = 32) {r : List Int} (hQ0 : ∀ (e' : Env) (w' : World) (z0 : List Int), z0.length = 32 → e' 2 = .pointer (some ⟨g2, 0, none⟩) → e' 4 = .pointer (some ⟨g7, 0, none⟩) → Hp w0 Ws w' [⟨g1, 0, ints .u64 a0⟩, ⟨g2, 0, ints .u8 (List.replicate 32 (0 : Int))⟩, ⟨g4, 0, ints .u64 r3⟩, ⟨g7, 0, ints .u8 z0⟩] [] → r = (z0) → Q .normal e' w') (e : Env) (w : World) (s2_e : e 2 = .pointer (some ⟨g2, 0, none⟩)) (s4_e : e 4 = .pointer (some ⟨g7, 0, none⟩)) (s17_e : e 17 = .bool r9) (hp : Hp w0 Ws w [⟨g1, 0, ints .u64 a0⟩, ⟨g2, 0, ints .u8 (List.replicate 32 (0 : Int))⟩, ⟨g4, 0, ints .u64 r3⟩, ⟨g7, 0, ints .u8 r6⟩] []) (h : point_Point_Bytes.p1 r9 r6 = some r) : Wp Try.prog Try.f32.ntmps (at_ (fbody Try.f32) [1, 1, 1, 0, 1]) Q e w := by
  unfold point_Point_Bytes.p1 at h
  refine wcondP (p0 := [1, 1, 1, 0, 1, 0]) (p1 := [1, 1, 1, 0, 1, 1]) (t := r9) rfl rfl rfl (by decide) s17_e (fun hb => ?_) (fun hb => ?_)
  · replace h := br_t hb h
    refine wregionT point_Point_Bytes.o5 (.tp 0 (.tk 1 (.tp 2 (.tp 3 (.ef 4 (.done)))))) [4] rfl rfl (by kernel_rfl) (by kernel_rfl) ?_
    refine k_indexA (n := 32) (s := 1) (j := 31) rfl Try.underlying22 (by kernel_rfl) s4_e rfl (by decide) ?_
    refine k_load (j := 31) (v := .int .u8 (r6.getD 31 0)) rfl (by kernel_rfl) rfl (hp.get (j := 3) rfl) rfl rfl (ints_get (Nat.lt_of_lt_of_eq (m := 32) (by decide) (lr60).symm)) ?_
    refine k_bin (X := .int .u8 (r6.getD 31 0)) (Y := .int .u8 128) rfl rfl rfl rfl ?_
    refine k_indexA (n := 32) (s := 1) (j := 31) rfl Try.underlying22 (by kernel_rfl) s4_e rfl (by decide) ?_
    refine k_store (v := .int .u8 (bits .or .u8 (r6.getD 31 0) 128)) 3 31 (r := ⟨g7, 0, ints .u8 r6⟩) rfl (by kernel_rfl) rfl rfl rfl hp rfl rfl rfl (Nat.lt_of_lt_of_eq (Nat.lt_of_lt_of_eq (m := 32) (by decide) (lr60).symm) (ints_length _ _).symm) (by decide) ?_; intro w hp; rw [ints_set] at hp
    refine k_end ?_; intro e91 qe91
    have s2_e91 : e91 2 = .pointer (some ⟨g2, 0, none⟩) := (congrFun qe91 2).trans s2_e
    have s4_e91 : e91 4 = .pointer (some ⟨g7, 0, none⟩) := (congrFun qe91 4).trans s4_e
    clear qe91
    exact hQ0 _ _ (r6.set 31 (bits .or .u8 (r6.getD 31 0) 128)) (List.length_set.trans lr60) s2_e91 s4_e91 (hp.drop (L' := [⟨g1, 0, ints .u64 a0⟩, ⟨g2, 0, ints .u8 (List.replicate 32 (0 : Int))⟩, ⟨g4, 0, ints .u64 r3⟩, ⟨g7, 0, ints .u8 (r6.set 31 (bits .or .u8 (r6.getD 31 0) 128))⟩]) (List.Sublist.refl _)) (Option.some.inj h).symm
  · replace h := br_f hb h
    refine wskip rfl ?_
    exact hQ0 _ _ r6 lr60 s2_e s4_e (hp.drop (L' := [⟨g1, 0, ints .u64 a0⟩, ⟨g2, 0, ints .u8 (List.replicate 32 (0 : Int))⟩, ⟨g4, 0, ints .u64 r3⟩, ⟨g7, 0, ints .u8 r6⟩]) (List.Sublist.refl _)) (Option.some.inj h).symm
theorem point_Point_Bytes_ok (k : Nat) (a0 : List Int) (la0 : a0.length = 20) (w0 : World) (hp : Hp w0 [] w0 [] []) {r : List Int} (h : point_Point_Bytes.f k a0 = some r) :
    Calls Try.prog 32 [.agg (ints .u64 a0).toArray].toArray w0 fun x w' => ∃ v, x = .returned v ∧ v = .agg (ints .u8 r).toArray ∧ r.length = 32 ∧ Hp w0 [] w' [] [] := by
  refine calls_inP Try.func32 rfl (Nat.le_of_ble_eq_true (by kernel_rfl)) (by kernel_rfl) ?_
  intro e0 qe0
  have s0_e0 : e0 0 = .agg (ints .u64 a0).toArray := congrFun qe0 0
  clear qe0
  unfold point_Point_Bytes.f at h
  refine wseqP (p0 := [0]) (p1 := [1]) rfl rfl rfl ?_
  refine wregionT point_Point_Bytes.o1 (.ef 0 (.ef 1 (.done))) [] rfl rfl (by kernel_rfl) (by kernel_rfl) ?_
  refine k_box (v := .agg (ints .u64 a0).toArray) (ints .u64 a0) rfl s0_e0 rfl hp ?_
  intro g1 w hbg1 hp
  refine k_alloc (ints .u8 (List.replicate 32 (0 : Int))) rfl (by kernel_rfl) hp ?_
  intro g2 w hbg2 hp
  refine k_end ?_; intro e87 qe87
  have s1_e87 : e87 1 = .pointer (some ⟨g1, 0, none⟩) := congrFun qe87 1
  have s2_e87 : e87 2 = .pointer (some ⟨g2, 0, none⟩) := congrFun qe87 2
  clear qe87
  refine wseqP (p0 := [1, 0]) (p1 := [1, 1]) rfl rfl rfl ?_
  refine wregionT point_Point_Bytes.o2 (.tp 0 (.tk 1 (.ef 2 (.ef 3 (.ef 4 (.done)))))) [4] rfl rfl (by kernel_rfl) (by kernel_rfl) ?_
  refine k_fieldAddr (n := 10) rfl (by kernel_rfl) s1_e87 ?_
  refine k_loadA (n := 5) (xs := ints .u64 ((a0.drop 10).take 5)) 10 rfl (by kernel_rfl) (by kernel_rfl) rfl (hp.get (j := 0) rfl) rfl rfl ((ints_length _ _).trans (show List.length ((a0.drop 10).take 5) = 5 from part_len la0 (by decide))) (fun m v hm => part_get hm) ?_
  obtain ⟨r3, qr3, h⟩ := bd_e h
  refine k_call [.agg (ints .u64 ((a0.drop 10).take 5)).toArray] rfl (by kernel_rfl) (args1 rfl) (field_Element_Inverse_ok k ((a0.drop 10).take 5) (show List.length ((a0.drop 10).take 5) = 5 from part_len la0 (by decide)) _ (hp.toR (fun _ h => by cases h)) qr3) ?_
  rintro _ w' ⟨_, rfl, rfl, lr30, hpc⟩
  refine ⟨_, rfl, .inr (.of_below hpc.chg.to_below), ?_⟩; have hp := hp.below hpc.chg.to_below; clear hpc
  refine k_alloc (ints .u64 (List.replicate 5 (0 : Int))) rfl (by kernel_rfl) hp ?_
  intro g4 w hbg4 hp
  refine k_storeA (v := .agg (ints .u64 r3).toArray) 2 0 (r := ⟨g4, 0, ints .u64 (List.replicate 5 (0 : Int))⟩) (ints .u64 r3) (ints .u64 r3) rfl (n := 5) (by kernel_rfl) rfl rfl rfl ((ints_length _ _).trans lr30) (ints_one _ _) hp rfl rfl rfl (Nat.le_of_eq ((Nat.zero_add _).trans ((ints_length _ _).trans List.length_replicate).symm)) (setMany_all _ _ (((ints_length _ _).trans lr30).trans ((ints_length _ _).trans List.length_replicate).symm)) (by decide) ?_; intro w hp
  refine k_end ?_; intro e88 qe88
  have s1_e88 : e88 1 = .pointer (some ⟨g1, 0, none⟩) := (congrFun qe88 1).trans s1_e87
  have s2_e88 : e88 2 = .pointer (some ⟨g2, 0, none⟩) := (congrFun qe88 2).trans s2_e87
  have s3_e88 : e88 3 = .pointer (some ⟨g4, 0, none⟩) := congrFun qe88 3
  clear qe88
  refine wseqP (p0 := [1, 1, 0]) (p1 := [1, 1, 1]) rfl rfl rfl ?_
  refine wregionT point_Point_Bytes.o3 (.tp 0 (.tk 1 (.tk 2 (.ef 3 (.ef 4 (.ef 5 (.ef 6 (.done)))))))) [6] rfl rfl (by kernel_rfl) (by kernel_rfl) ?_
  refine k_fieldAddr (n := 5) rfl (by kernel_rfl) s1_e88 ?_
  refine k_loadA (n := 5) (xs := ints .u64 ((a0.drop 5).take 5)) 5 rfl (by kernel_rfl) (by kernel_rfl) rfl (hp.get (j := 0) rfl) rfl rfl ((ints_length _ _).trans (show List.length ((a0.drop 5).take 5) = 5 from part_len la0 (by decide))) (fun m v hm => part_get hm) ?_
  refine k_loadA (n := 5) (xs := ints .u64 r3) 0 rfl (by kernel_rfl) (by kernel_rfl) s3_e88 (hp.get (j := 2) rfl) rfl rfl ((ints_length _ _).trans lr30) (fun m v hm => by rw [Nat.zero_add]; exact hm) ?_
  obtain ⟨r5, qr5, h⟩ := bd_e h
  refine k_call [.agg (ints .u64 ((a0.drop 5).take 5)).toArray, .agg (ints .u64 r3).toArray] rfl (by kernel_rfl) (args2 rfl rfl) (field_Element_Times_ok ((a0.drop 5).take 5) r3 (show List.length ((a0.drop 5).take 5) = 5 from part_len la0 (by decide)) lr30 _ (hp.toR (fun _ h => by cases h)) qr5) ?_
  rintro _ w' ⟨_, rfl, rfl, lr50, hpc⟩
  refine ⟨_, rfl, .inr (.of_below hpc.chg.to_below), ?_⟩; have hp := hp.below hpc.chg.to_below; clear hpc
  obtain ⟨r6, qr6, h⟩ := bd_e h
  refine k_call [.agg (ints .u64 r5).toArray] rfl (by kernel_rfl) (args1 rfl) (field_Element_Bytes_ok k r5 lr50 _ (hp.toR (fun _ h => by cases h)) qr6) ?_
  rintro _ w' ⟨_, rfl, rfl, lr60, hpc⟩
  refine ⟨_, rfl, .inr (.of_below hpc.chg.to_below), ?_⟩; have hp := hp.below hpc.chg.to_below; clear hpc
  refine k_alloc (ints .u8 (List.replicate 32 (0 : Int))) rfl (by kernel_rfl) hp ?_
  intro g7 w hbg7 hp
  refine k_storeA (v := .agg (ints .u8 r6).toArray) 3 0 (r := ⟨g7, 0, ints .u8 (List.replicate 32 (0 : Int))⟩) (ints .u8 r6) (ints .u8 r6) rfl (n := 32) (by kernel_rfl) rfl rfl rfl ((ints_length _ _).trans lr60) (ints_one _ _) hp rfl rfl rfl (Nat.le_of_eq ((Nat.zero_add _).trans ((ints_length _ _).trans List.length_replicate).symm)) (setMany_all _ _ (((ints_length _ _).trans lr60).trans ((ints_length _ _).trans List.length_replicate).symm)) (by decide) ?_; intro w hp
  refine k_end ?_; intro e89 qe89
  have s1_e89 : e89 1 = .pointer (some ⟨g1, 0, none⟩) := (congrFun qe89 1).trans s1_e88
  have s2_e89 : e89 2 = .pointer (some ⟨g2, 0, none⟩) := (congrFun qe89 2).trans s2_e88
  have s3_e89 : e89 3 = .pointer (some ⟨g4, 0, none⟩) := (congrFun qe89 3).trans s3_e88
  have s4_e89 : e89 4 = .pointer (some ⟨g7, 0, none⟩) := congrFun qe89 4
  clear qe89
  refine wseqP (p0 := [1, 1, 1, 0]) (p1 := [1, 1, 1, 1]) rfl rfl rfl ?_
  refine wseqP (p0 := [1, 1, 1, 0, 0]) (p1 := [1, 1, 1, 0, 1]) rfl rfl rfl ?_
  refine wregionT point_Point_Bytes.o4 (.tp 0 (.tk 1 (.tk 2 (.ef 3 (.ef 4 (.done)))))) [] rfl rfl (by kernel_rfl) (by kernel_rfl) ?_
  refine k_fieldAddr (n := 0) rfl (by kernel_rfl) s1_e89 ?_
  refine k_loadA (n := 5) (xs := ints .u64 ((a0.drop 0).take 5)) 0 rfl (by kernel_rfl) (by kernel_rfl) rfl (hp.get (j := 0) rfl) rfl rfl ((ints_length _ _).trans (show List.length ((a0.drop 0).take 5) = 5 from part_len la0 (by decide))) (fun m v hm => part_get hm) ?_
  refine k_loadA (n := 5) (xs := ints .u64 r3) 0 rfl (by kernel_rfl) (by kernel_rfl) s3_e89 (hp.get (j := 2) rfl) rfl rfl ((ints_length _ _).trans lr30) (fun m v hm => by rw [Nat.zero_add]; exact hm) ?_
  obtain ⟨r8, qr8, h⟩ := bd_e h
  refine k_call [.agg (ints .u64 ((a0.drop 0).take 5)).toArray, .agg (ints .u64 r3).toArray] rfl (by kernel_rfl) (args2 rfl rfl) (field_Element_Times_ok ((a0.drop 0).take 5) r3 (show List.length ((a0.drop 0).take 5) = 5 from part_len la0 (by decide)) lr30 _ (hp.toR (fun _ h => by cases h)) qr8) ?_
  rintro _ w' ⟨_, rfl, rfl, lr80, hpc⟩
  refine ⟨_, rfl, .inr (.of_below hpc.chg.to_below), ?_⟩; have hp := hp.below hpc.chg.to_below; clear hpc
  obtain ⟨r9, qr9, h⟩ := bd_e h
  refine k_call [.agg (ints .u64 r8).toArray] rfl (by kernel_rfl) (args1 rfl) (field_Element_Odd_ok k r8 lr80 _ (hp.toR (fun _ h => by cases h)) qr9) ?_
  rintro _ w' ⟨_, rfl, rfl, hpc⟩
  refine ⟨_, rfl, .inr (.of_below hpc.chg.to_below), ?_⟩; have hp := hp.below hpc.chg.to_below; clear hpc
  refine k_end ?_; intro e90 qe90
  have s2_e90 : e90 2 = .pointer (some ⟨g2, 0, none⟩) := (congrFun qe90 2).trans s2_e89
  have s4_e90 : e90 4 = .pointer (some ⟨g7, 0, none⟩) := (congrFun qe90 4).trans s4_e89
  have s17_e90 : e90 17 = .bool r9 := congrFun qe90 17
  clear qe90
  obtain ⟨r10, qr10, h⟩ := bd_e h
  refine point_Point_Bytes.p1_ok g1 g2 g4 g7 r9 a0 r3 r6 la0 lr30 lr60 ?hq0 e90 _ s2_e90 s4_e90 s17_e90 hp qr10
  case hq0 =>
    intro e92 w m11 lm11 s2_e92 s4_e92 hp qq
    rw [qq] at h; clear qq
    refine wseqP (p0 := [1, 1, 1, 1, 0]) (p1 := [1, 1, 1, 1, 1]) rfl rfl rfl ?_
    refine wregionT point_Point_Bytes.o6 (.tk 0 (.ef 1 (.done))) [1] rfl rfl (by kernel_rfl) (by kernel_rfl) ?_
    refine k_loadA (n := 32) (xs := ints .u8 m11) 0 rfl (by kernel_rfl) (by kernel_rfl) s4_e92 (hp.get (j := 3) rfl) rfl rfl ((ints_length _ _).trans lm11) (fun m v hm => by rw [Nat.zero_add]; exact hm) ?_
    refine k_storeA (v := .agg (ints .u8 m11).toArray) 1 0 (r := ⟨g2, 0, ints .u8 (List.replicate 32 (0 : Int))⟩) (ints .u8 m11) (ints .u8 m11) rfl (n := 32) (by kernel_rfl) s2_e92 rfl rfl ((ints_length _ _).trans lm11) (ints_one _ _) hp rfl rfl rfl (Nat.le_of_eq ((Nat.zero_add _).trans ((ints_length _ _).trans List.length_replicate).symm)) (setMany_all _ _ (((ints_length _ _).trans lm11).trans ((ints_length _ _).trans List.length_replicate).symm)) (by decide) ?_; intro w hp
    refine k_end ?_; intro e93 qe93
    have s2_e93 : e93 2 = .pointer (some ⟨g2, 0, none⟩) := (congrFun qe93 2).trans s2_e92
    clear qe93
    refine wret rfl ?_
    have hr : r = m11 := (Option.some.inj h).symm
    show RetP _ _ _ _ _
    rw [hr]
    exact ret_i [.agg (ints .u8 m11).toArray] (res_cell s2_e93 (loadVar_agg (by kernel_rfl) (by kernel_rfl) ((ints_length _ _).trans lm11) (hp.get (j := 1) rfl) rfl rfl rfl) res_nil) ⟨rfl, lm11, hp.none⟩
/-! 10 postilion/point.Generator -/
noncomputable def point_Generator.o1 : Array Oper := opsC (at_ (fbody Try.f10) [0])
noncomputable def point_Generator.o2 : Array Oper := opsC (at_ (fbody Try.f10) [1, 0])
theorem point_Generator_ok (k : Nat)  (w0 : World) (hp : Hp w0 [] w0 [] []) {r : List Int} (h : point_Generator.f k  = some r) :
    Calls Try.prog 10 [].toArray w0 fun x w' => ∃ v, x = .returned v ∧ v = .agg (ints .u8 r).toArray ∧ r.length = 32 ∧ Hp w0 [] w' [] [] := by
  refine calls_inP Try.func10 rfl (Nat.le_of_ble_eq_true (by kernel_rfl)) (by kernel_rfl) ?_
  intro e0 qe0
  clear qe0
  unfold point_Generator.f at h
  refine wseqP (p0 := [0]) (p1 := [1]) rfl rfl rfl ?_
  refine wregionT point_Generator.o1 (.ef 0 (.done)) [] rfl rfl (by kernel_rfl) (by kernel_rfl) ?_
  refine k_alloc (ints .u8 (List.replicate 32 (0 : Int))) rfl (by kernel_rfl) hp ?_
  intro g1 w hbg1 hp
  refine k_end ?_; intro e94 qe94
  have s0_e94 : e94 0 = .pointer (some ⟨g1, 0, none⟩) := congrFun qe94 0
  clear qe94
  refine wseqP (p0 := [1, 0]) (p1 := [1, 1]) rfl rfl rfl ?_
  refine wregionT point_Generator.o2 (.ef 0 (.ef 1 (.ef 2 (.done)))) [2] rfl rfl (by kernel_rfl) (by kernel_rfl) ?_
  obtain ⟨r2, qr2, h⟩ := bd_e h
  refine k_call [] rfl (by kernel_rfl) (args0 ) (point_B_ok   _ (hp.toR (fun _ h => by cases h)) qr2) ?_
  rintro _ w' ⟨_, rfl, rfl, lr20, hpc⟩
  refine ⟨_, rfl, .inr (.of_below hpc.chg.to_below), ?_⟩; have hp := hp.below hpc.chg.to_below; clear hpc
  obtain ⟨r3, qr3, h⟩ := bd_e h
  refine k_call [.agg (ints .u64 r2).toArray] rfl (by kernel_rfl) (args1 rfl) (point_Point_Bytes_ok k r2 lr20 _ (hp.toR (fun _ h => by cases h)) qr3) ?_
  rintro _ w' ⟨_, rfl, rfl, lr30, hpc⟩
  refine ⟨_, rfl, .inr (.of_below hpc.chg.to_below), ?_⟩; have hp := hp.below hpc.chg.to_below; clear hpc
  refine k_storeA (v := .agg (ints .u8 r3).toArray) 0 0 (r := ⟨g1, 0, ints .u8 (List.replicate 32 (0 : Int))⟩) (ints .u8 r3) (ints .u8 r3) rfl (n := 32) (by kernel_rfl) s0_e94 rfl rfl ((ints_length _ _).trans lr30) (ints_one _ _) hp rfl rfl rfl (Nat.le_of_eq ((Nat.zero_add _).trans ((ints_length _ _).trans List.length_replicate).symm)) (setMany_all _ _ (((ints_length _ _).trans lr30).trans ((ints_length _ _).trans List.length_replicate).symm)) (by decide) ?_; intro w hp
  refine k_end ?_; intro e95 qe95
  have s0_e95 : e95 0 = .pointer (some ⟨g1, 0, none⟩) := (congrFun qe95 0).trans s0_e94
  clear qe95
  refine wret rfl ?_
  have hr : r = r3 := (Option.some.inj h).symm
  show RetP _ _ _ _ _
  rw [hr]
  exact ret_i [.agg (ints .u8 r3).toArray] (res_cell s0_e95 (loadVar_agg (by kernel_rfl) (by kernel_rfl) ((ints_length _ _).trans lr30) (hp.get (j := 0) rfl) rfl rfl rfl) res_nil) ⟨rfl, lr30, hp.none⟩
/-! 77 postilion/field.Of$1 -/
noncomputable def field_Of_1.o1 : Array Oper := opsC (at_ (fbody Try.f77) [0])
noncomputable def field_Of_1.o2 : Array Oper := opsC (at_ (fbody Try.f77) [1, 0])
noncomputable def field_Of_1.o3 : Array Oper := opsC (at_ (fbody Try.f77) [1, 1, 0, 0])
noncomputable def field_Of_1.o4 : Array Oper := opsC (at_ (fbody Try.f77) [1, 1, 0, 1, 0, 0, 0, 0])
noncomputable def field_Of_1.o5 : Array Oper := opsC (at_ (fbody Try.f77) [1, 1, 0, 1, 0, 0, 1, 0, 0])
noncomputable def field_Of_1.o6 : Array Oper := opsC (at_ (fbody Try.f77) [1, 1, 0, 1, 0, 0, 1, 1])
noncomputable def field_Of_1.o7 : Array Oper := opsC (at_ (fbody Try.f77) [1, 1, 1, 0])
theorem field_Of_1.p1_ok {w0 : World} {Ws : List Wr} {Q : Exit → Env → World → Prop} (b1 o1 : Nat) (a0 : Int) (a1 : List Int) (la1 : a1.length = 32) {r : Int} (hQ0 : ∀ (e' : Env) (w' : World) (z0 : Int), e' 4 = .int .u64 z0 → Hp w0 Ws w' [] [⟨b1, o1, ints .u8 a1⟩] → r = (z0) → Q (.exit 0) e' w') : ∀ (k : Nat), ∀ (y1 : Int) (y2 : Int) (e : Env) (w : World)  (s0_e : e 0 = .int .i64 a0) (s1_e : e 1 = .pointer (some ⟨b1, o1, none⟩)) (s4_e : e 4 = .int .u64 y1) (s5_e : e 5 = .int .i64 y2) (hp : Hp w0 Ws w [] [⟨b1, o1, ints .u8 a1⟩]) (h : field_Of_1.p1 k a0 a1 y1 y2 = some r), Lp Try.prog Try.f77.ntmps (at_ (fbody Try.f77) [1, 1, 0, 1, 0, 0]) Q k e w := by
  intro k
  induction k with
  | zero => intro y1 y2 e w  s0_e s1_e s4_e s5_e hp h; cases h
  | succ k ih =>
    intro y1 y2 e w  s0_e s1_e s4_e s5_e hp h
    unfold field_Of_1.p1 at h
    show Wp _ _ _ _ _ _
    refine wseqP (p0 := [1, 1, 0, 1, 0, 0, 0]) (p1 := [1, 1, 0, 1, 0, 0, 1]) rfl rfl rfl ?_
    refine wseqP (p0 := [1, 1, 0, 1, 0, 0, 0, 0]) (p1 := [1, 1, 0, 1, 0, 0, 0, 1]) rfl rfl rfl ?_
    refine wregionT field_Of_1.o4 (.tp 0 (.tp 1 (.done))) [] rfl rfl (by kernel_rfl) (by kernel_rfl) ?_
    refine k_move (v := .int .i64 y2) rfl s5_e ?_
    refine k_bin (X := .int .i64 y2) (Y := .int .i64 0) rfl rfl rfl rfl ?_
    refine k_end ?_; intro e99 qe99
    have s0_e99 : e99 0 = .int .i64 a0 := (congrFun qe99 0).trans s0_e
    have s1_e99 : e99 1 = .pointer (some ⟨b1, o1, none⟩) := (congrFun qe99 1).trans s1_e
    have s4_e99 : e99 4 = .int .u64 y1 := (congrFun qe99 4).trans s4_e
    have s5_e99 : e99 5 = .int .i64 y2 := (congrFun qe99 5).trans s5_e
    have s7_e99 : e99 7 = .bool (decide (y2 ≥ 0)) := congrFun qe99 7
    clear qe99
    refine wcondP (p0 := [1, 1, 0, 1, 0, 0, 0, 1, 0]) (p1 := [1, 1, 0, 1, 0, 0, 0, 1, 1]) (t := (decide (y2 ≥ 0))) rfl rfl rfl (by decide) s7_e99 (fun hb => ?_) (fun hb => ?_)
    · replace h := br_t hb h
      refine wskip rfl ?_
      refine wseqP (p0 := [1, 1, 0, 1, 0, 0, 1, 0]) (p1 := [1, 1, 0, 1, 0, 0, 1, 1]) rfl rfl rfl ?_
      refine wblockP (p0 := [1, 1, 0, 1, 0, 0, 1, 0, 0]) 1 rfl rfl ?_
      refine wregionT field_Of_1.o5 (.tp 0 (.tp 1 (.tp 2 (.tp 3 (.tp 4 (.tp 5 (.tk 6 (.tp 7 (.tp 8 (.tp 9 (.done))))))))))) [] rfl rfl (by kernel_rfl) (by kernel_rfl) ?_
      refine k_move (v := .int .u64 y1) rfl s4_e99 ?_
      refine k_shl (a := y1) (b := 8) rfl rfl rfl (by decide) ?_
      refine k_move (v := .int .i64 a0) rfl s0_e99 ?_
      refine k_move (v := .int .i64 y2) rfl s5_e99 ?_
      refine k_bin (X := .int .i64 a0) (Y := .int .i64 y2) rfl rfl rfl rfl ?_
      obtain ⟨c3, h⟩ := chk_e h
      refine k_indexA (n := 32) (s := 1) (j := (IntKind.i64.wrap (a0 + y2))) rfl Try.underlying22 (by kernel_rfl) s1_e99 rfl c3 ?_
      refine k_load (j := ((IntKind.i64.wrap (a0 + y2)) : Int).toNat) (v := .int .u8 (a1.getD ((IntKind.i64.wrap (a0 + y2)) : Int).toNat 0)) rfl (by kernel_rfl) rfl (hp.getR (j := 0) rfl) rfl (show o1 + ((IntKind.i64.wrap (a0 + y2)) : Int).toNat * 1 = o1 + ((IntKind.i64.wrap (a0 + y2)) : Int).toNat by omega) (ints_get (idx_lt c3 la1)) ?_
      refine k_conv (k := .u64) (k' := .u8) (n := (a1.getD ((IntKind.i64.wrap (a0 + y2)) : Int).toNat 0)) rfl Try.underlying5 Try.underlying38 rfl ?_
      refine k_bin (X := .int .u64 (IntKind.u64.wrap (y1 * 2 ^ 8))) (Y := .int .u64 (IntKind.u64.wrap (a1.getD ((IntKind.i64.wrap (a0 + y2)) : Int).toNat 0))) rfl rfl rfl rfl ?_
      refine k_assign (v := .int .u64 (bits .or .u64 (IntKind.u64.wrap (y1 * 2 ^ 8)) (IntKind.u64.wrap (a1.getD ((IntKind.i64.wrap (a0 + y2)) : Int).toNat 0)))) rfl rfl ?_
      refine k_end ?_; intro e100 qe100
      have s0_e100 : e100 0 = .int .i64 a0 := (congrFun qe100 0).trans s0_e99
      have s1_e100 : e100 1 = .pointer (some ⟨b1, o1, none⟩) := (congrFun qe100 1).trans s1_e99
      obtain ⟨x4, qx4, h⟩ := lt_e h
      have s4_e100 : e100 4 = .int .u64 x4 := (congrFun qe100 4).trans (congrArg (Value.int .u64) qx4.symm)
      have s5_e100 : e100 5 = .int .i64 y2 := (congrFun qe100 5).trans s5_e99
      clear qe100
      refine wregionT field_Of_1.o6 (.tp 0 (.tp 1 (.tp 2 (.done)))) [] rfl rfl (by kernel_rfl) (by kernel_rfl) ?_
      refine k_move (v := .int .i64 y2) rfl s5_e100 ?_
      refine k_bin (X := .int .i64 y2) (Y := .int .i64 1) rfl rfl rfl rfl ?_
      refine k_assign (v := .int .i64 (IntKind.i64.wrap (y2 - 1))) rfl rfl ?_
      refine k_end ?_; intro e101 qe101
      have s0_e101 : e101 0 = .int .i64 a0 := (congrFun qe101 0).trans s0_e100
      have s1_e101 : e101 1 = .pointer (some ⟨b1, o1, none⟩) := (congrFun qe101 1).trans s1_e100
      have s4_e101 : e101 4 = .int .u64 x4 := (congrFun qe101 4).trans s4_e100
      obtain ⟨x5, qx5, h⟩ := lt_e h
      have s5_e101 : e101 5 = .int .i64 x5 := (congrFun qe101 5).trans (congrArg (Value.int .i64) qx5.symm)
      clear qe101
      exact ih x4 x5 _ _  s0_e101 s1_e101 s4_e101 s5_e101 (hp.drop (L' := []) (List.Sublist.refl _)) h
    · replace h := br_f hb h
      refine wexit rfl ?_
      exact hQ0 _ _ y1  s4_e99 (hp.drop (L' := []) (List.Sublist.refl _)) (Option.some.inj h).symm
theorem field_Of_1_ok (k : Nat) (a0 : Int) (a1 : List Int) (b1 o1 : Nat) (la1 : a1.length = 32) (w0 : World) (hp : Hp w0 [] w0 [] [⟨b1, o1, ints .u8 a1⟩]) {r : Int} (h : field_Of_1.f k a0 a1 = some r) :
    Calls Try.prog 77 [.int .i64 a0, .pointer (some ⟨b1, o1, none⟩)].toArray w0 fun x w' => ∃ v, x = .returned v ∧ v = .int .u64 r ∧ Hp w0 [] w' [] [⟨b1, o1, ints .u8 a1⟩] := by
  refine calls_inP Try.func77 rfl (Nat.le_of_ble_eq_true (by kernel_rfl)) (by kernel_rfl) ?_
  intro e0 qe0
  have s0_e0 : e0 0 = .int .i64 a0 := congrFun qe0 0
  have s1_e0 : e0 1 = .pointer (some ⟨b1, o1, none⟩) := congrFun qe0 1
  clear qe0
  unfold field_Of_1.f at h
  refine wseqP (p0 := [0]) (p1 := [1]) rfl rfl rfl ?_
  refine wregionT field_Of_1.o1 (.tp 0 (.done)) [] rfl rfl (by kernel_rfl) (by kernel_rfl) ?_
  refine k_assign (v := .int .u64 0) rfl rfl ?_
  refine k_end ?_; intro e96 qe96
  have s0_e96 : e96 0 = .int .i64 a0 := (congrFun qe96 0).trans s0_e0
  have s1_e96 : e96 1 = .pointer (some ⟨b1, o1, none⟩) := (congrFun qe96 1).trans s1_e0
  clear qe96
  refine wseqP (p0 := [1, 0]) (p1 := [1, 1]) rfl rfl rfl ?_
  refine wregionT field_Of_1.o2 (.tp 0 (.done)) [] rfl rfl (by kernel_rfl) (by kernel_rfl) ?_
  refine k_assign (v := .int .u64 0) rfl rfl ?_
  refine k_end ?_; intro e97 qe97
  have s0_e97 : e97 0 = .int .i64 a0 := (congrFun qe97 0).trans s0_e96
  have s1_e97 : e97 1 = .pointer (some ⟨b1, o1, none⟩) := (congrFun qe97 1).trans s1_e96
  have s4_e97 : e97 4 = .int .u64 0 := congrFun qe97 4
  clear qe97
  refine wseqP (p0 := [1, 1, 0]) (p1 := [1, 1, 1]) rfl rfl rfl ?_
  refine wseqP (p0 := [1, 1, 0, 0]) (p1 := [1, 1, 0, 1]) rfl rfl rfl ?_
  refine wregionT field_Of_1.o3 (.tp 0 (.done)) [] rfl rfl (by kernel_rfl) (by kernel_rfl) ?_
  refine k_assign (v := .int .i64 7) rfl rfl ?_
  refine k_end ?_; intro e98 qe98
  have s0_e98 : e98 0 = .int .i64 a0 := (congrFun qe98 0).trans s0_e97
  have s1_e98 : e98 1 = .pointer (some ⟨b1, o1, none⟩) := (congrFun qe98 1).trans s1_e97
  have s4_e98 : e98 4 = .int .u64 0 := (congrFun qe98 4).trans s4_e97
  have s5_e98 : e98 5 = .int .i64 7 := congrFun qe98 5
  clear qe98
  refine wblockP (p0 := [1, 1, 0, 1, 0]) 0 rfl rfl ?_
  obtain ⟨r6, qr6, h⟩ := bd_e h
  refine wloopP (p0 := [1, 1, 0, 1, 0, 0]) k rfl rfl (field_Of_1.p1_ok b1 o1 a0 a1 la1 ?hq0 k 0 7 e98 _  s0_e98 s1_e98 s4_e98 s5_e98 hp qr6)
  case hq0 =>
    intro e102 w m7  s4_e102 hp qq
    rw [qq] at h; clear qq
    refine wseqP (p0 := [1, 1, 1, 0]) (p1 := [1, 1, 1, 1]) rfl rfl rfl ?_
    refine wregionT field_Of_1.o7 (.tp 0 (.tp 1 (.done))) [] rfl rfl (by kernel_rfl) (by kernel_rfl) ?_
    refine k_move (v := .int .u64 m7) rfl s4_e102 ?_
    refine k_assign (v := .int .u64 m7) rfl rfl ?_
    refine k_end ?_; intro e103 qe103
    have s3_e103 : e103 3 = .int .u64 m7 := congrFun qe103 3
    clear qe103
    refine wret rfl ?_
    have hr : r = m7 := (Option.some.inj h).symm
    show RetP _ _ _ _ _
    rw [hr]
    exact ret_i [.int .u64 m7] (res_tmp s3_e103 res_nil) ⟨rfl, hp.none⟩
/-! 47 postilion/field.Of -/
noncomputable def field_Of.o1 : Array Oper := opsC (at_ (fbody Try.f47) [0])
noncomputable def field_Of.o2 : Array Oper := opsC (at_ (fbody Try.f47) [1, 0])
noncomputable def field_Of.o3 : Array Oper := opsC (at_ (fbody Try.f47) [1, 1, 0])
noncomputable def field_Of.o4 : Array Oper := opsC (at_ (fbody Try.f47) [1, 1, 1, 0])
noncomputable def field_Of.o5 : Array Oper := opsC (at_ (fbody Try.f47) [1, 1, 1, 1, 0])
theorem field_Of_ok (k : Nat) (a0 : List Int) (la0 : a0.length = 32) (w0 : World) (hp : Hp w0 [] w0 [] []) {r : List Int} (h : field_Of.f k a0 = some r) :
    Calls Try.prog 47 [.agg (ints .u8 a0).toArray].toArray w0 fun x w' => ∃ v, x = .returned v ∧ v = .agg (ints .u64 r).toArray ∧ r.length = 5 ∧ Hp w0 [] w' [] [] := by
  refine calls_inP Try.func47 rfl (Nat.le_of_ble_eq_true (by kernel_rfl)) (by kernel_rfl) ?_
  intro e0 qe0
  have s0_e0 : e0 0 = .agg (ints .u8 a0).toArray := congrFun qe0 0
  clear qe0
  unfold field_Of.f at h
  refine wseqP (p0 := [0]) (p1 := [1]) rfl rfl rfl ?_
  refine wregionT field_Of.o1 (.ef 0 (.ef 1 (.done))) [] rfl rfl (by kernel_rfl) (by kernel_rfl) ?_
  refine k_box (v := .agg (ints .u8 a0).toArray) (ints .u8 a0) rfl s0_e0 rfl hp ?_
  intro g1 w hbg1 hp
  refine k_alloc (ints .u64 (List.replicate 5 (0 : Int))) rfl (by kernel_rfl) hp ?_
  intro g2 w hbg2 hp
  refine k_end ?_; intro e104 qe104
  have s1_e104 : e104 1 = .pointer (some ⟨g1, 0, none⟩) := congrFun qe104 1
  have s2_e104 : e104 2 = .pointer (some ⟨g2, 0, none⟩) := congrFun qe104 2
  clear qe104
  refine wseqP (p0 := [1, 0]) (p1 := [1, 1]) rfl rfl rfl ?_
  refine wregionT field_Of.o2 (.tp 0 (.tp 1 (.done))) [] rfl rfl (by kernel_rfl) (by kernel_rfl) ?_
  refine k_makeFunc [.pointer (some ⟨g1, 0, none⟩)] rfl (args1 s1_e104) ?_
  refine k_assign (v := .func (.func 77) #[] #[.pointer (some ⟨g1, 0, none⟩)]) rfl rfl ?_
  refine k_end ?_; intro e105 qe105
  have s1_e105 : e105 1 = .pointer (some ⟨g1, 0, none⟩) := (congrFun qe105 1).trans s1_e104
  have s2_e105 : e105 2 = .pointer (some ⟨g2, 0, none⟩) := (congrFun qe105 2).trans s2_e104
  have s3_e105 : e105 3 = .func (.func 77) #[] #[.pointer (some ⟨g1, 0, none⟩)] := congrFun qe105 3
  clear qe105
  refine wseqP (p0 := [1, 1, 0]) (p1 := [1, 1, 1]) rfl rfl rfl ?_
  refine wregionT field_Of.o3 (.tp 0 (.ef 1 (.tp 2 (.tp 3 (.ef 4 (.tp 5 (.tp 6 (.tp 7 (.ef 8 (.tp 9 (.tp 10 (.tp 11 (.ef 12 (.tp 13 (.tp 14 (.tp 15 (.ef 16 (.tp 17 (.tp 18 (.tp 19 (.ef 20 (.ef 21 (.done))))))))))))))))))))))) [21] rfl rfl (by kernel_rfl) (by kernel_rfl) ?_
  refine k_move (v := .func (.func 77) #[] #[.pointer (some ⟨g1, 0, none⟩)]) rfl s3_e105 ?_
  obtain ⟨r3, qr3, h⟩ := bd_e h
  refine k_callV [.pointer (some ⟨g1, 0, none⟩)] [.int .i64 0] rfl (by kernel_rfl) rfl (args1 rfl) (field_Of_1_ok k 0 a0 g1 (0) la0 _ (hp.toR (fun r hr => by rw [List.mem_singleton] at hr; subst hr; exact .inl (List.mem_of_getElem? (i := 0) rfl))) qr3) ?_
  rintro _ w' ⟨_, rfl, rfl, hpc⟩
  refine ⟨_, rfl, .inr (.of_below hpc.chg.to_below), ?_⟩; have hp := hp.below hpc.chg.to_below; clear hpc
  refine k_bin (X := .int .u64 r3) (Y := .int .u64 2251799813685247) rfl rfl rfl rfl ?_
  refine k_move (v := .func (.func 77) #[] #[.pointer (some ⟨g1, 0, none⟩)]) rfl s3_e105 ?_
  obtain ⟨r4, qr4, h⟩ := bd_e h
  refine k_callV [.pointer (some ⟨g1, 0, none⟩)] [.int .i64 6] rfl (by kernel_rfl) rfl (args1 rfl) (field_Of_1_ok k 6 a0 g1 (0) la0 _ (hp.toR (fun r hr => by rw [List.mem_singleton] at hr; subst hr; exact .inl (List.mem_of_getElem? (i := 0) rfl))) qr4) ?_
  rintro _ w' ⟨_, rfl, rfl, hpc⟩
  refine ⟨_, rfl, .inr (.of_below hpc.chg.to_below), ?_⟩; have hp := hp.below hpc.chg.to_below; clear hpc
  refine k_shr (a := r4) (b := 3) rfl rfl rfl (by decide) ?_
  refine k_bin (X := .int .u64 (Int.fdiv r4 (2 ^ 3))) (Y := .int .u64 2251799813685247) rfl rfl rfl rfl ?_
  refine k_move (v := .func (.func 77) #[] #[.pointer (some ⟨g1, 0, none⟩)]) rfl s3_e105 ?_
  obtain ⟨r5, qr5, h⟩ := bd_e h
  refine k_callV [.pointer (some ⟨g1, 0, none⟩)] [.int .i64 12] rfl (by kernel_rfl) rfl (args1 rfl) (field_Of_1_ok k 12 a0 g1 (0) la0 _ (hp.toR (fun r hr => by rw [List.mem_singleton] at hr; subst hr; exact .inl (List.mem_of_getElem? (i := 0) rfl))) qr5) ?_
  rintro _ w' ⟨_, rfl, rfl, hpc⟩
  refine ⟨_, rfl, .inr (.of_below hpc.chg.to_below), ?_⟩; have hp := hp.below hpc.chg.to_below; clear hpc
  refine k_shr (a := r5) (b := 6) rfl rfl rfl (by decide) ?_
  refine k_bin (X := .int .u64 (Int.fdiv r5 (2 ^ 6))) (Y := .int .u64 2251799813685247) rfl rfl rfl rfl ?_
  refine k_move (v := .func (.func 77) #[] #[.pointer (some ⟨g1, 0, none⟩)]) rfl s3_e105 ?_
  obtain ⟨r6, qr6, h⟩ := bd_e h
  refine k_callV [.pointer (some ⟨g1, 0, none⟩)] [.int .i64 19] rfl (by kernel_rfl) rfl (args1 rfl) (field_Of_1_ok k 19 a0 g1 (0) la0 _ (hp.toR (fun r hr => by rw [List.mem_singleton] at hr; subst hr; exact .inl (List.mem_of_getElem? (i := 0) rfl))) qr6) ?_
  rintro _ w' ⟨_, rfl, rfl, hpc⟩
  refine ⟨_, rfl, .inr (.of_below hpc.chg.to_below), ?_⟩; have hp := hp.below hpc.chg.to_below; clear hpc
  refine k_shr (a := r6) (b := 1) rfl rfl rfl (by decide) ?_
  refine k_bin (X := .int .u64 (Int.fdiv r6 (2 ^ 1))) (Y := .int .u64 2251799813685247) rfl rfl rfl rfl ?_
  refine k_move (v := .func (.func 77) #[] #[.pointer (some ⟨g1, 0, none⟩)]) rfl s3_e105 ?_
  obtain ⟨r7, qr7, h⟩ := bd_e h
  refine k_callV [.pointer (some ⟨g1, 0, none⟩)] [.int .i64 24] rfl (by kernel_rfl) rfl (args1 rfl) (field_Of_1_ok k 24 a0 g1 (0) la0 _ (hp.toR (fun r hr => by rw [List.mem_singleton] at hr; subst hr; exact .inl (List.mem_of_getElem? (i := 0) rfl))) qr7) ?_
  rintro _ w' ⟨_, rfl, rfl, hpc⟩
  refine ⟨_, rfl, .inr (.of_below hpc.chg.to_below), ?_⟩; have hp := hp.below hpc.chg.to_below; clear hpc
  refine k_shr (a := r7) (b := 12) rfl rfl rfl (by decide) ?_
  refine k_bin (X := .int .u64 (Int.fdiv r7 (2 ^ 12))) (Y := .int .u64 2251799813685247) rfl rfl rfl rfl ?_
  refine k_build (v := .agg (ints .u64 [(bits .and .u64 r3 2251799813685247), (bits .and .u64 (Int.fdiv r4 (2 ^ 3)) 2251799813685247), (bits .and .u64 (Int.fdiv r5 (2 ^ 6)) 2251799813685247), (bits .and .u64 (Int.fdiv r6 (2 ^ 1)) 2251799813685247), (bits .and .u64 (Int.fdiv r7 (2 ^ 12)) 2251799813685247)]).toArray) rfl (fun _ => by kernel_rfl) ?_
  refine k_alloc (ints .u64 (List.replicate 5 (0 : Int))) rfl (by kernel_rfl) hp ?_
  intro g8 w hbg8 hp
  refine k_storeA (v := .agg (ints .u64 [(bits .and .u64 r3 2251799813685247), (bits .and .u64 (Int.fdiv r4 (2 ^ 3)) 2251799813685247), (bits .and .u64 (Int.fdiv r5 (2 ^ 6)) 2251799813685247), (bits .and .u64 (Int.fdiv r6 (2 ^ 1)) 2251799813685247), (bits .and .u64 (Int.fdiv r7 (2 ^ 12)) 2251799813685247)]).toArray) 2 0 (r := ⟨g8, 0, ints .u64 (List.replicate 5 (0 : Int))⟩) (ints .u64 [(bits .and .u64 r3 2251799813685247), (bits .and .u64 (Int.fdiv r4 (2 ^ 3)) 2251799813685247), (bits .and .u64 (Int.fdiv r5 (2 ^ 6)) 2251799813685247), (bits .and .u64 (Int.fdiv r6 (2 ^ 1)) 2251799813685247), (bits .and .u64 (Int.fdiv r7 (2 ^ 12)) 2251799813685247)]) (ints .u64 [(bits .and .u64 r3 2251799813685247), (bits .and .u64 (Int.fdiv r4 (2 ^ 3)) 2251799813685247), (bits .and .u64 (Int.fdiv r5 (2 ^ 6)) 2251799813685247), (bits .and .u64 (Int.fdiv r6 (2 ^ 1)) 2251799813685247), (bits .and .u64 (Int.fdiv r7 (2 ^ 12)) 2251799813685247)]) rfl (n := 5) (by kernel_rfl) rfl rfl rfl ((ints_length _ _).trans (rfl : List.length ([(bits .and .u64 r3 2251799813685247), (bits .and .u64 (Int.fdiv r4 (2 ^ 3)) 2251799813685247), (bits .and .u64 (Int.fdiv r5 (2 ^ 6)) 2251799813685247), (bits .and .u64 (Int.fdiv r6 (2 ^ 1)) 2251799813685247), (bits .and .u64 (Int.fdiv r7 (2 ^ 12)) 2251799813685247)] : List Int) = 5)) (ints_one _ _) hp rfl rfl rfl (Nat.le_of_eq ((Nat.zero_add _).trans ((ints_length _ _).trans List.length_replicate).symm)) (setMany_all _ _ (((ints_length _ _).trans (rfl : List.length ([(bits .and .u64 r3 2251799813685247), (bits .and .u64 (Int.fdiv r4 (2 ^ 3)) 2251799813685247), (bits .and .u64 (Int.fdiv r5 (2 ^ 6)) 2251799813685247), (bits .and .u64 (Int.fdiv r6 (2 ^ 1)) 2251799813685247), (bits .and .u64 (Int.fdiv r7 (2 ^ 12)) 2251799813685247)] : List Int) = 5)).trans ((ints_length _ _).trans List.length_replicate).symm)) (by decide) ?_; intro w hp
  refine k_end ?_; intro e106 qe106
  have s1_e106 : e106 1 = .pointer (some ⟨g1, 0, none⟩) := (congrFun qe106 1).trans s1_e105
  have s2_e106 : e106 2 = .pointer (some ⟨g2, 0, none⟩) := (congrFun qe106 2).trans s2_e105
  have s4_e106 : e106 4 = .pointer (some ⟨g8, 0, none⟩) := congrFun qe106 4
  clear qe106
  obtain ⟨x9, qx9, h⟩ := lt_e h
  have lx9 : x9.length = 5 := (congrArg List.length qx9).trans (rfl : List.length ([(bits .and .u64 r3 2251799813685247), (bits .and .u64 (Int.fdiv r4 (2 ^ 3)) 2251799813685247), (bits .and .u64 (Int.fdiv r5 (2 ^ 6)) 2251799813685247), (bits .and .u64 (Int.fdiv r6 (2 ^ 1)) 2251799813685247), (bits .and .u64 (Int.fdiv r7 (2 ^ 12)) 2251799813685247)] : List Int) = 5)
  have hp : Hp w0 [] w [⟨g1, 0, ints .u8 a0⟩, ⟨g2, 0, ints .u64 (List.replicate 5 (0 : Int))⟩, ⟨g8, 0, ints .u64 x9⟩] [] := by rw [qx9]; exact hp
  refine wseqP (p0 := [1, 1, 1, 0]) (p1 := [1, 1, 1, 1]) rfl rfl rfl ?_
  refine wregionT field_Of.o4 (.tp 0 (.tk 1 (.tp 2 (.tk 3 (.tp 4 (.tp 5 (.tp 6 (.tp 7 (.tp 8 (.ef 9 (.done))))))))))) [9] rfl rfl (by kernel_rfl) (by kernel_rfl) ?_
  refine k_indexA (n := 5) (s := 1) (j := 0) rfl Try.underlying40 (by kernel_rfl) s4_e106 rfl (by decide) ?_
  refine k_load (j := 0) (v := .int .u64 (x9.getD 0 0)) rfl (by kernel_rfl) rfl (hp.get (j := 2) rfl) rfl rfl (ints_get (Nat.lt_of_lt_of_eq (m := 5) (by decide) (lx9).symm)) ?_
  refine k_indexA (n := 32) (s := 1) (j := 31) rfl Try.underlying22 (by kernel_rfl) s1_e106 rfl (by decide) ?_
  refine k_load (j := 31) (v := .int .u8 (a0.getD 31 0)) rfl (by kernel_rfl) rfl (hp.get (j := 0) rfl) rfl rfl (ints_get (Nat.lt_of_lt_of_eq (m := 32) (by decide) (la0).symm)) ?_
  refine k_shr (a := (a0.getD 31 0)) (b := 7) rfl rfl rfl (by decide) ?_
  refine k_conv (k := .u64) (k' := .u8) (n := (Int.fdiv (a0.getD 31 0) (2 ^ 7))) rfl Try.underlying5 Try.underlying38 rfl ?_
  refine k_bin (X := .int .u64 19) (Y := .int .u64 (IntKind.u64.wrap (Int.fdiv (a0.getD 31 0) (2 ^ 7)))) rfl rfl rfl rfl ?_
  refine k_bin (X := .int .u64 (x9.getD 0 0)) (Y := .int .u64 (IntKind.u64.wrap (19 * (IntKind.u64.wrap (Int.fdiv (a0.getD 31 0) (2 ^ 7)))))) rfl rfl rfl rfl ?_
  refine k_indexA (n := 5) (s := 1) (j := 0) rfl Try.underlying40 (by kernel_rfl) s4_e106 rfl (by decide) ?_
  refine k_store (v := .int .u64 (IntKind.u64.wrap ((x9.getD 0 0) + (IntKind.u64.wrap (19 * (IntKind.u64.wrap (Int.fdiv (a0.getD 31 0) (2 ^ 7)))))))) 2 0 (r := ⟨g8, 0, ints .u64 x9⟩) rfl (by kernel_rfl) rfl rfl rfl hp rfl rfl rfl (Nat.lt_of_lt_of_eq (Nat.lt_of_lt_of_eq (m := 5) (by decide) (lx9).symm) (ints_length _ _).symm) (by decide) ?_; intro w hp; rw [ints_set] at hp
  refine k_end ?_; intro e107 qe107
  have s2_e107 : e107 2 = .pointer (some ⟨g2, 0, none⟩) := (congrFun qe107 2).trans s2_e106
  have s4_e107 : e107 4 = .pointer (some ⟨g8, 0, none⟩) := (congrFun qe107 4).trans s4_e106
  clear qe107
  obtain ⟨x10, qx10, h⟩ := lt_e h
  have lx10 : x10.length = 5 := (congrArg List.length qx10).trans (List.length_set.trans lx9)
  have hp : Hp w0 [] w [⟨g1, 0, ints .u8 a0⟩, ⟨g2, 0, ints .u64 (List.replicate 5 (0 : Int))⟩, ⟨g8, 0, ints .u64 x10⟩] [] := by rw [qx10]; exact hp
  refine wseqP (p0 := [1, 1, 1, 1, 0]) (p1 := [1, 1, 1, 1, 1]) rfl rfl rfl ?_
  refine wregionT field_Of.o5 (.tk 0 (.ef 1 (.done))) [1] rfl rfl (by kernel_rfl) (by kernel_rfl) ?_
  refine k_loadA (n := 5) (xs := ints .u64 x10) 0 rfl (by kernel_rfl) (by kernel_rfl) s4_e107 (hp.get (j := 2) rfl) rfl rfl ((ints_length _ _).trans lx10) (fun m v hm => by rw [Nat.zero_add]; exact hm) ?_
  refine k_storeA (v := .agg (ints .u64 x10).toArray) 1 0 (r := ⟨g2, 0, ints .u64 (List.replicate 5 (0 : Int))⟩) (ints .u64 x10) (ints .u64 x10) rfl (n := 5) (by kernel_rfl) s2_e107 rfl rfl ((ints_length _ _).trans lx10) (ints_one _ _) hp rfl rfl rfl (Nat.le_of_eq ((Nat.zero_add _).trans ((ints_length _ _).trans List.length_replicate).symm)) (setMany_all _ _ (((ints_length _ _).trans lx10).trans ((ints_length _ _).trans List.length_replicate).symm)) (by decide) ?_; intro w hp
  refine k_end ?_; intro e108 qe108
  have s2_e108 : e108 2 = .pointer (some ⟨g2, 0, none⟩) := (congrFun qe108 2).trans s2_e107
  clear qe108
  refine wret rfl ?_
  have hr : r = x10 := (Option.some.inj h).symm
  show RetP _ _ _ _ _
  rw [hr]
  exact ret_i [.agg (ints .u64 x10).toArray] (res_cell s2_e108 (loadVar_agg (by kernel_rfl) (by kernel_rfl) ((ints_length _ _).trans lx10) (hp.get (j := 1) rfl) rfl rfl rfl) res_nil) ⟨rfl, lx10, hp.none⟩
/-! 46 postilion/field.Canonical -/
noncomputable def field_Canonical.o1 : Array Oper := opsC (at_ (fbody Try.f46) [0])
noncomputable def field_Canonical.o2 : Array Oper := opsC (at_ (fbody Try.f46) [1, 0])
theorem field_Canonical_ok (k : Nat) (a0 : List Int) (la0 : a0.length = 32) (w0 : World) (hp : Hp w0 [] w0 [] []) {r : Bool} (h : field_Canonical.f k a0 = some r) :
    Calls Try.prog 46 [.agg (ints .u8 a0).toArray].toArray w0 fun x w' => ∃ v, x = .returned v ∧ v = .bool r ∧ Hp w0 [] w' [] [] := by
  refine calls_inP Try.func46 rfl (Nat.le_of_ble_eq_true (by kernel_rfl)) (by kernel_rfl) ?_
  intro e0 qe0
  have s0_e0 : e0 0 = .agg (ints .u8 a0).toArray := congrFun qe0 0
  clear qe0
  unfold field_Canonical.f at h
  refine wseqP (p0 := [0]) (p1 := [1]) rfl rfl rfl ?_
  refine wregionT field_Canonical.o1 (.ef 0 (.tp 1 (.done))) [] rfl rfl (by kernel_rfl) (by kernel_rfl) ?_
  refine k_box (v := .agg (ints .u8 a0).toArray) (ints .u8 a0) rfl s0_e0 rfl hp ?_
  intro g1 w hbg1 hp
  refine k_assign (v := .bool false) rfl rfl ?_
  refine k_end ?_; intro e109 qe109
  have s1_e109 : e109 1 = .pointer (some ⟨g1, 0, none⟩) := congrFun qe109 1
  clear qe109
  refine wseqP (p0 := [1, 0]) (p1 := [1, 1]) rfl rfl rfl ?_
  refine wregionM field_Canonical.o2 (.tk 0 (.tk 3 (.ef 1 (.ef 2 (.tp 4 (.tp 5 (.done))))))) [] [(0, 0, 0), (1, 63, 63), (2, 63, 63), (0, 0, 0), (12, 12, 63), (31, 16, 63)] rfl rfl (by kernel_rfl) (by kernel_rfl) (Nat.le_of_ble_eq_true (by kernel_rfl)) (by kernel_rfl) (by kernel_rfl) (by kernel_rfl) ?_
  have hp := hp.drew
  refine k_loadA (n := 32) (xs := ints .u8 a0) 0 rfl (by kernel_rfl) (by kernel_rfl) s1_e109 (hp.get (j := 0) rfl) rfl rfl ((ints_length _ _).trans la0) (fun m v hm => by rw [Nat.zero_add]; exact hm) ?_
  refine k_loadA (n := 32) (xs := ints .u8 a0) 0 rfl (by kernel_rfl) (by kernel_rfl) s1_e109 (hp.get (j := 0) rfl) rfl rfl ((ints_length _ _).trans la0) (fun m v hm => by rw [Nat.zero_add]; exact hm) ?_
  obtain ⟨r2, qr2, h⟩ := bd_e h
  refine k_call [.agg (ints .u8 a0).toArray] rfl (by kernel_rfl) (args1 rfl) (field_Of_ok k a0 la0 _ (hp.toR (fun _ h => by cases h)) qr2) ?_
  rintro _ w' ⟨_, rfl, rfl, lr20, hpc⟩
  refine ⟨_, rfl, .inr (.of_below hpc.chg.to_below), ?_⟩; have hp := hp.below hpc.chg.to_below; clear hpc
  obtain ⟨r3, qr3, h⟩ := bd_e h
  refine k_call [.agg (ints .u64 r2).toArray] rfl (by kernel_rfl) (args1 rfl) (field_Element_Bytes_ok k r2 lr20 _ (hp.toR (fun _ h => by cases h)) qr3) ?_
  rintro _ w' ⟨_, rfl, rfl, lr30, hpc⟩
  refine ⟨_, rfl, .inr (.of_below hpc.chg.to_below), ?_⟩; have hp := hp.below hpc.chg.to_below; clear hpc
  refine k_eqI (k := .u8) (l := r3) (l' := a0) rfl Try.underlying22 Try.underlying5 (by kernel_rfl) (by kernel_rfl) rfl rfl lr30 la0 ?_
  refine k_assign (v := .bool (r3 == a0)) rfl rfl ?_
  refine k_end ?_; intro e110 qe110
  have s2_e110 : e110 2 = .bool (r3 == a0) := congrFun qe110 2
  clear qe110
  refine wret rfl ?_
  have hr : r = (r3 == a0) := (Option.some.inj h).symm
  show RetP _ _ _ _ _
  rw [hr]
  exact ret_i [.bool (r3 == a0)] (res_tmp s2_e110 res_nil) ⟨rfl, hp.none⟩
/-! 50 (postilion/field.Element).Minus -/
noncomputable def field_Element_Minus.o1 : Array Oper := opsC (at_ (fbody Try.f50) [0])
noncomputable def field_Element_Minus.o2 : Array Oper := opsC (at_ (fbody Try.f50) [1, 0])
theorem field_Element_Minus_ok (a0 : List Int) (a1 : List Int) (la0 : a0.length = 5) (la1 : a1.length = 5) (w0 : World) (hp : Hp w0 [] w0 [] []) {r : List Int} (h : field_Element_Minus.f a0 a1 = some r) :
    Calls Try.prog 50 [.agg (ints .u64 a0).toArray, .agg (ints .u64 a1).toArray].toArray w0 fun x w' => ∃ v, x = .returned v ∧ v = .agg (ints .u64 r).toArray ∧ r.length = 5 ∧ Hp w0 [] w' [] [] := by
  refine calls_inP Try.func50 rfl (Nat.le_of_ble_eq_true (by kernel_rfl)) (by kernel_rfl) ?_
  intro e0 qe0
  have s0_e0 : e0 0 = .agg (ints .u64 a0).toArray := congrFun qe0 0
  have s1_e0 : e0 1 = .agg (ints .u64 a1).toArray := congrFun qe0 1
  clear qe0
  unfold field_Element_Minus.f at h
  refine wseqP (p0 := [0]) (p1 := [1]) rfl rfl rfl ?_
  refine wregionT field_Element_Minus.o1 (.ef 0 (.ef 1 (.ef 2 (.done)))) [] rfl rfl (by kernel_rfl) (by kernel_rfl) ?_
  refine k_box (v := .agg (ints .u64 a0).toArray) (ints .u64 a0) rfl s0_e0 rfl hp ?_
  intro g1 w hbg1 hp
  refine k_box (v := .agg (ints .u64 a1).toArray) (ints .u64 a1) rfl s1_e0 rfl hp ?_
  intro g2 w hbg2 hp
  refine k_alloc (ints .u64 (List.replicate 5 (0 : Int))) rfl (by kernel_rfl) hp ?_
  intro g3 w hbg3 hp
  refine k_end ?_; intro e111 qe111
  have s2_e111 : e111 2 = .pointer (some ⟨g1, 0, none⟩) := congrFun qe111 2
  have s3_e111 : e111 3 = .pointer (some ⟨g2, 0, none⟩) := congrFun qe111 3
  have s4_e111 : e111 4 = .pointer (some ⟨g3, 0, none⟩) := congrFun qe111 4
  clear qe111
  refine wseqP (p0 := [1, 0]) (p1 := [1, 1]) rfl rfl rfl ?_
  refine wregionT field_Element_Minus.o2 (.tp 0 (.tk 1 (.tp 2 (.tp 3 (.tk 4 (.tp 5 (.tp 6 (.tk 7 (.tp 8 (.tp 9 (.tk 10 (.tp 11 (.tp 12 (.tk 13 (.tp 14 (.tp 15 (.tk 16 (.tp 17 (.tp 18 (.tk 19 (.tp 20 (.tp 21 (.tk 22 (.tp 23 (.tp 24 (.tk 25 (.tp 26 (.tp 27 (.tk 28 (.tp 29 (.tp 30 (.ef 31 (.ef 32 (.done)))))))))))))))))))))))))))))))))) [32] rfl rfl (by kernel_rfl) (by kernel_rfl) ?_
  refine k_indexA (n := 5) (s := 1) (j := 0) rfl Try.underlying40 (by kernel_rfl) s2_e111 rfl (by decide) ?_
  refine k_load (j := 0) (v := .int .u64 (a0.getD 0 0)) rfl (by kernel_rfl) rfl (hp.get (j := 0) rfl) rfl rfl (ints_get (Nat.lt_of_lt_of_eq (m := 5) (by decide) (la0).symm)) ?_
  refine k_bin (X := .int .u64 (a0.getD 0 0)) (Y := .int .u64 4503599627370458) rfl rfl rfl rfl ?_
  refine k_indexA (n := 5) (s := 1) (j := 0) rfl Try.underlying40 (by kernel_rfl) s3_e111 rfl (by decide) ?_
  refine k_load (j := 0) (v := .int .u64 (a1.getD 0 0)) rfl (by kernel_rfl) rfl (hp.get (j := 1) rfl) rfl rfl (ints_get (Nat.lt_of_lt_of_eq (m := 5) (by decide) (la1).symm)) ?_
  refine k_bin (X := .int .u64 (IntKind.u64.wrap ((a0.getD 0 0) + 4503599627370458))) (Y := .int .u64 (a1.getD 0 0)) rfl rfl rfl rfl ?_
  refine k_indexA (n := 5) (s := 1) (j := 1) rfl Try.underlying40 (by kernel_rfl) s2_e111 rfl (by decide) ?_
  refine k_load (j := 1) (v := .int .u64 (a0.getD 1 0)) rfl (by kernel_rfl) rfl (hp.get (j := 0) rfl) rfl rfl (ints_get (Nat.lt_of_lt_of_eq (m := 5) (by decide) (la0).symm)) ?_
  refine k_bin (X := .int .u64 (a0.getD 1 0)) (Y := .int .u64 4503599627370494) rfl rfl rfl rfl ?_
  refine k_indexA (n := 5) (s := 1) (j := 1) rfl Try.underlying40 (by kernel_rfl) s3_e111 rfl (by decide) ?_
  refine k_load (j := 1) (v := .int .u64 (a1.getD 1 0)) rfl (by kernel_rfl) rfl (hp.get (j := 1) rfl) rfl rfl (ints_get (Nat.lt_of_lt_of_eq (m := 5) (by decide) (la1).symm)) ?_
  refine k_bin (X := .int .u64 (IntKind.u64.wrap ((a0.getD 1 0) + 4503599627370494))) (Y := .int .u64 (a1.getD 1 0)) rfl rfl rfl rfl ?_
  refine k_indexA (n := 5) (s := 1) (j := 2) rfl Try.underlying40 (by kernel_rfl) s2_e111 rfl (by decide) ?_
  refine k_load (j := 2) (v := .int .u64 (a0.getD 2 0)) rfl (by kernel_rfl) rfl (hp.get (j := 0) rfl) rfl rfl (ints_get (Nat.lt_of_lt_of_eq (m := 5) (by decide) (la0).symm)) ?_
  refine k_bin (X := .int .u64 (a0.getD 2 0)) (Y := .int .u64 4503599627370494) rfl rfl rfl rfl ?_
  refine k_indexA (n := 5) (s := 1) (j := 2) rfl Try.underlying40 (by kernel_rfl) s3_e111 rfl (by decide) ?_
  refine k_load (j := 2) (v := .int .u64 (a1.getD 2 0)) rfl (by kernel_rfl) rfl (hp.get (j := 1) rfl) rfl rfl (ints_get (Nat.lt_of_lt_of_eq (m := 5) (by decide) (la1).symm)) ?_
  refine k_bin (X := .int .u64 (IntKind.u64.wrap ((a0.getD 2 0) + 4503599627370494))) (Y := .int .u64 (a1.getD 2 0)) rfl rfl rfl rfl ?_
  refine k_indexA (n := 5) (s := 1) (j := 3) rfl Try.underlying40 (by kernel_rfl) s2_e111 rfl (by decide) ?_
  refine k_load (j := 3) (v := .int .u64 (a0.getD 3 0)) rfl (by kernel_rfl) rfl (hp.get (j := 0) rfl) rfl rfl (ints_get (Nat.lt_of_lt_of_eq (m := 5) (by decide) (la0).symm)) ?_
  refine k_bin (X := .int .u64 (a0.getD 3 0)) (Y := .int .u64 4503599627370494) rfl rfl rfl rfl ?_
  refine k_indexA (n := 5) (s := 1) (j := 3) rfl Try.underlying40 (by kernel_rfl) s3_e111 rfl (by decide) ?_
  refine k_load (j := 3) (v := .int .u64 (a1.getD 3 0)) rfl (by kernel_rfl) rfl (hp.get (j := 1) rfl) rfl rfl (ints_get (Nat.lt_of_lt_of_eq (m := 5) (by decide) (la1).symm)) ?_
  refine k_bin (X := .int .u64 (IntKind.u64.wrap ((a0.getD 3 0) + 4503599627370494))) (Y := .int .u64 (a1.getD 3 0)) rfl rfl rfl rfl ?_
  refine k_indexA (n := 5) (s := 1) (j := 4) rfl Try.underlying40 (by kernel_rfl) s2_e111 rfl (by decide) ?_
  refine k_load (j := 4) (v := .int .u64 (a0.getD 4 0)) rfl (by kernel_rfl) rfl (hp.get (j := 0) rfl) rfl rfl (ints_get (Nat.lt_of_lt_of_eq (m := 5) (by decide) (la0).symm)) ?_
  refine k_bin (X := .int .u64 (a0.getD 4 0)) (Y := .int .u64 4503599627370494) rfl rfl rfl rfl ?_
  refine k_indexA (n := 5) (s := 1) (j := 4) rfl Try.underlying40 (by kernel_rfl) s3_e111 rfl (by decide) ?_
  refine k_load (j := 4) (v := .int .u64 (a1.getD 4 0)) rfl (by kernel_rfl) rfl (hp.get (j := 1) rfl) rfl rfl (ints_get (Nat.lt_of_lt_of_eq (m := 5) (by decide) (la1).symm)) ?_
  refine k_bin (X := .int .u64 (IntKind.u64.wrap ((a0.getD 4 0) + 4503599627370494))) (Y := .int .u64 (a1.getD 4 0)) rfl rfl rfl rfl ?_
  refine k_build (v := .agg (ints .u64 [(IntKind.u64.wrap ((IntKind.u64.wrap ((a0.getD 0 0) + 4503599627370458)) - (a1.getD 0 0))), (IntKind.u64.wrap ((IntKind.u64.wrap ((a0.getD 1 0) + 4503599627370494)) - (a1.getD 1 0))), (IntKind.u64.wrap ((IntKind.u64.wrap ((a0.getD 2 0) + 4503599627370494)) - (a1.getD 2 0))), (IntKind.u64.wrap ((IntKind.u64.wrap ((a0.getD 3 0) + 4503599627370494)) - (a1.getD 3 0))), (IntKind.u64.wrap ((IntKind.u64.wrap ((a0.getD 4 0) + 4503599627370494)) - (a1.getD 4 0)))]).toArray) rfl (fun _ => by kernel_rfl) ?_
  obtain ⟨r4, qr4, h⟩ := bd_e h
  refine k_call [.agg (ints .u64 [(IntKind.u64.wrap ((IntKind.u64.wrap ((a0.getD 0 0) + 4503599627370458)) - (a1.getD 0 0))), (IntKind.u64.wrap ((IntKind.u64.wrap ((a0.getD 1 0) + 4503599627370494)) - (a1.getD 1 0))), (IntKind.u64.wrap ((IntKind.u64.wrap ((a0.getD 2 0) + 4503599627370494)) - (a1.getD 2 0))), (IntKind.u64.wrap ((IntKind.u64.wrap ((a0.getD 3 0) + 4503599627370494)) - (a1.getD 3 0))), (IntKind.u64.wrap ((IntKind.u64.wrap ((a0.getD 4 0) + 4503599627370494)) - (a1.getD 4 0)))]).toArray] rfl (by kernel_rfl) (args1 rfl) (field_Element_carried_ok [(IntKind.u64.wrap ((IntKind.u64.wrap ((a0.getD 0 0) + 4503599627370458)) - (a1.getD 0 0))), (IntKind.u64.wrap ((IntKind.u64.wrap ((a0.getD 1 0) + 4503599627370494)) - (a1.getD 1 0))), (IntKind.u64.wrap ((IntKind.u64.wrap ((a0.getD 2 0) + 4503599627370494)) - (a1.getD 2 0))), (IntKind.u64.wrap ((IntKind.u64.wrap ((a0.getD 3 0) + 4503599627370494)) - (a1.getD 3 0))), (IntKind.u64.wrap ((IntKind.u64.wrap ((a0.getD 4 0) + 4503599627370494)) - (a1.getD 4 0)))] (rfl : List.length ([(IntKind.u64.wrap ((IntKind.u64.wrap ((a0.getD 0 0) + 4503599627370458)) - (a1.getD 0 0))), (IntKind.u64.wrap ((IntKind.u64.wrap ((a0.getD 1 0) + 4503599627370494)) - (a1.getD 1 0))), (IntKind.u64.wrap ((IntKind.u64.wrap ((a0.getD 2 0) + 4503599627370494)) - (a1.getD 2 0))), (IntKind.u64.wrap ((IntKind.u64.wrap ((a0.getD 3 0) + 4503599627370494)) - (a1.getD 3 0))), (IntKind.u64.wrap ((IntKind.u64.wrap ((a0.getD 4 0) + 4503599627370494)) - (a1.getD 4 0)))] : List Int) = 5) _ (hp.toR (fun _ h => by cases h)) qr4) ?_
  rintro _ w' ⟨_, rfl, rfl, lr40, hpc⟩
  refine ⟨_, rfl, .inr (.of_below hpc.chg.to_below), ?_⟩; have hp := hp.below hpc.chg.to_below; clear hpc
  refine k_storeA (v := .agg (ints .u64 r4).toArray) 2 0 (r := ⟨g3, 0, ints .u64 (List.replicate 5 (0 : Int))⟩) (ints .u64 r4) (ints .u64 r4) rfl (n := 5) (by kernel_rfl) s4_e111 rfl rfl ((ints_length _ _).trans lr40) (ints_one _ _) hp rfl rfl rfl (Nat.le_of_eq ((Nat.zero_add _).trans ((ints_length _ _).trans List.length_replicate).symm)) (setMany_all _ _ (((ints_length _ _).trans lr40).trans ((ints_length _ _).trans List.length_replicate).symm)) (by decide) ?_; intro w hp
  refine k_end ?_; intro e112 qe112
  have s4_e112 : e112 4 = .pointer (some ⟨g3, 0, none⟩) := (congrFun qe112 4).trans s4_e111
  clear qe112
  refine wret rfl ?_
  have hr : r = r4 := (Option.some.inj h).symm
  show RetP _ _ _ _ _
  rw [hr]
  exact ret_i [.agg (ints .u64 r4).toArray] (res_cell s4_e112 (loadVar_agg (by kernel_rfl) (by kernel_rfl) ((ints_length _ _).trans lr40) (hp.get (j := 2) rfl) rfl rfl rfl) res_nil) ⟨rfl, lr40, hp.none⟩
/-! 52 postilion/point.curve -/
noncomputable def point_curve.o1 : Array Oper := opsC (at_ (fbody Try.f52) [0])
noncomputable def point_curve.o2 : Array Oper := opsC (at_ (fbody Try.f52) [1, 0])
theorem point_curve_ok  (w0 : World) (hp : Hp w0 [] w0 [] []) {r : List Int} (h : point_curve.f  = some r) :
    Calls Try.prog 52 [].toArray w0 fun x w' => ∃ v, x = .returned v ∧ v = .agg (ints .u64 r).toArray ∧ r.length = 5 ∧ Hp w0 [] w' [] [] := by
  refine calls_inP Try.func52 rfl (Nat.le_of_ble_eq_true (by kernel_rfl)) (by kernel_rfl) ?_
  intro e0 qe0
  clear qe0
  unfold point_curve.f at h
  refine wseqP (p0 := [0]) (p1 := [1]) rfl rfl rfl ?_
  refine wregionT point_curve.o1 (.ef 0 (.done)) [] rfl rfl (by kernel_rfl) (by kernel_rfl) ?_
  refine k_alloc (ints .u64 (List.replicate 5 (0 : Int))) rfl (by kernel_rfl) hp ?_
  intro g1 w hbg1 hp
  refine k_end ?_; intro e113 qe113
  have s0_e113 : e113 0 = .pointer (some ⟨g1, 0, none⟩) := congrFun qe113 0
  clear qe113
  refine wseqP (p0 := [1, 0]) (p1 := [1, 1]) rfl rfl rfl ?_
  refine wregionT point_curve.o2 (.tp 0 (.ef 1 (.done))) [1] rfl rfl (by kernel_rfl) (by kernel_rfl) ?_
  refine k_build (v := .agg (ints .u64 [929955233495203, 466365720129213, 1662059464998953, 2033849074728123, 1442794654840575]).toArray) rfl (fun _ => by kernel_rfl) ?_
  refine k_storeA (v := .agg (ints .u64 [929955233495203, 466365720129213, 1662059464998953, 2033849074728123, 1442794654840575]).toArray) 0 0 (r := ⟨g1, 0, ints .u64 (List.replicate 5 (0 : Int))⟩) (ints .u64 [929955233495203, 466365720129213, 1662059464998953, 2033849074728123, 1442794654840575]) (ints .u64 [929955233495203, 466365720129213, 1662059464998953, 2033849074728123, 1442794654840575]) rfl (n := 5) (by kernel_rfl) s0_e113 rfl rfl ((ints_length _ _).trans (rfl : List.length ([929955233495203, 466365720129213, 1662059464998953, 2033849074728123, 1442794654840575] : List Int) = 5)) (ints_one _ _) hp rfl rfl rfl (Nat.le_of_eq ((Nat.zero_add _).trans ((ints_length _ _).trans List.length_replicate).symm)) (setMany_all _ _ (((ints_length _ _).trans (rfl : List.length ([929955233495203, 466365720129213, 1662059464998953, 2033849074728123, 1442794654840575] : List Int) = 5)).trans ((ints_length _ _).trans List.length_replicate).symm)) (by decide) ?_; intro w hp
  refine k_end ?_; intro e114 qe114
  have s0_e114 : e114 0 = .pointer (some ⟨g1, 0, none⟩) := (congrFun qe114 0).trans s0_e113
  clear qe114
  obtain ⟨x2, qx2, h⟩ := lt_e h
  have lx2 : x2.length = 5 := (congrArg List.length qx2).trans (rfl : List.length ([929955233495203, 466365720129213, 1662059464998953, 2033849074728123, 1442794654840575] : List Int) = 5)
  have hp : Hp w0 [] w [⟨g1, 0, ints .u64 x2⟩] [] := by rw [qx2]; exact hp
  refine wret rfl ?_
  have hr : r = x2 := (Option.some.inj h).symm
  show RetP _ _ _ _ _
  rw [hr]
  exact ret_i [.agg (ints .u64 x2).toArray] (res_cell s0_e114 (loadVar_agg (by kernel_rfl) (by kernel_rfl) ((ints_length _ _).trans lx2) (hp.get (j := 0) rfl) rfl rfl rfl) res_nil) ⟨rfl, lx2, hp.none⟩
/-! 53 (postilion/field.Element).Plus -/
noncomputable def field_Element_Plus.o1 : Array Oper := opsC (at_ (fbody Try.f53) [0])
noncomputable def field_Element_Plus.o2 : Array Oper := opsC (at_ (fbody Try.f53) [1, 0, 0])
noncomputable def field_Element_Plus.o3 : Array Oper := opsC (at_ (fbody Try.f53) [1, 0, 1, 0, 0, 0])
noncomputable def field_Element_Plus.o4 : Array Oper := opsC (at_ (fbody Try.f53) [1, 0, 1, 0, 0, 1, 1, 0, 0, 0])
noncomputable def field_Element_Plus.o5 : Array Oper := opsC (at_ (fbody Try.f53) [1, 0, 1, 0, 0, 1, 1, 0, 0, 1])
noncomputable def field_Element_Plus.o6 : Array Oper := opsC (at_ (fbody Try.f53) [1, 0, 1, 0, 0, 1, 1, 1])
noncomputable def field_Element_Plus.o7 : Array Oper := opsC (at_ (fbody Try.f53) [1, 1, 0])
theorem field_Element_Plus.p1_ok {w0 : World} {Ws : List Wr} {Q : Exit → Env → World → Prop} (g1 g2 g3 : Nat) (a1 : List Int) (la1 : a1.length = 5) {r : List Int} (hQ0 : ∀ (e' : Env) (w' : World) (z0 : List Int), z0.length = 5 → e' 2 = .pointer (some ⟨g1, 0, none⟩) → e' 4 = .pointer (some ⟨g3, 0, none⟩) → Hp w0 Ws w' [⟨g1, 0, ints .u64 z0⟩, ⟨g2, 0, ints .u64 a1⟩, ⟨g3, 0, ints .u64 (List.replicate 5 (0 : Int))⟩] [] → r = (z0) → Q (.exit 0) e' w') : ∀ (k : Nat), ∀ (y4 : List Int) (y5 : Int) (e : Env) (w : World) (ly4 : y4.length = 5) (s2_e : e 2 = .pointer (some ⟨g1, 0, none⟩)) (s3_e : e 3 = .pointer (some ⟨g2, 0, none⟩)) (s4_e : e 4 = .pointer (some ⟨g3, 0, none⟩)) (s6_e : e 6 = .int .i64 y5) (hp : Hp w0 Ws w [⟨g1, 0, ints .u64 y4⟩, ⟨g2, 0, ints .u64 a1⟩, ⟨g3, 0, ints .u64 (List.replicate 5 (0 : Int))⟩] []) (h : field_Element_Plus.p1 k a1 y4 y5 = some r), Lp Try.prog Try.f53.ntmps (at_ (fbody Try.f53) [1, 0, 1, 0, 0]) Q k e w := by
  intro k
  induction k with
  | zero => intro y4 y5 e w ly4 s2_e s3_e s4_e s6_e hp h; cases h
  | succ k ih =>
    intro y4 y5 e w ly4 s2_e s3_e s4_e s6_e hp h
    unfold field_Element_Plus.p1 at h
    show Wp _ _ _ _ _ _
    refine wseqP (p0 := [1, 0, 1, 0, 0, 0]) (p1 := [1, 0, 1, 0, 0, 1]) rfl rfl rfl ?_
    refine wregionT field_Element_Plus.o3 (.tp 0 (.done)) [] rfl rfl (by kernel_rfl) (by kernel_rfl) ?_
    refine k_bin (X := .int .i64 y5) (Y := .int .i64 5) rfl s6_e rfl rfl ?_
    refine k_end ?_; intro e117 qe117
    have s2_e117 : e117 2 = .pointer (some ⟨g1, 0, none⟩) := (congrFun qe117 2).trans s2_e
    have s3_e117 : e117 3 = .pointer (some ⟨g2, 0, none⟩) := (congrFun qe117 3).trans s3_e
    have s4_e117 : e117 4 = .pointer (some ⟨g3, 0, none⟩) := (congrFun qe117 4).trans s4_e
    have s6_e117 : e117 6 = .int .i64 y5 := (congrFun qe117 6).trans s6_e
    have s7_e117 : e117 7 = .bool (decide (y5 < 5)) := congrFun qe117 7
    clear qe117
    refine wseqP (p0 := [1, 0, 1, 0, 0, 1, 0]) (p1 := [1, 0, 1, 0, 0, 1, 1]) rfl rfl rfl ?_
    refine wcondP (p0 := [1, 0, 1, 0, 0, 1, 0, 0]) (p1 := [1, 0, 1, 0, 0, 1, 0, 1]) (t := (decide (y5 < 5))) rfl rfl rfl (by decide) s7_e117 (fun hb => ?_) (fun hb => ?_)
    · replace h := br_t hb h
      refine wskip rfl ?_
      refine wseqP (p0 := [1, 0, 1, 0, 0, 1, 1, 0]) (p1 := [1, 0, 1, 0, 0, 1, 1, 1]) rfl rfl rfl ?_
      refine wblockP (p0 := [1, 0, 1, 0, 0, 1, 1, 0, 0]) 1 rfl rfl ?_
      refine wseqP (p0 := [1, 0, 1, 0, 0, 1, 1, 0, 0, 0]) (p1 := [1, 0, 1, 0, 0, 1, 1, 0, 0, 1]) rfl rfl rfl ?_
      refine wregionT field_Element_Plus.o4 (.tp 0 (.tp 1 (.done))) [] rfl rfl (by kernel_rfl) (by kernel_rfl) ?_
      refine k_move (v := .int .i64 y5) rfl s6_e117 ?_
      refine k_assign (v := .int .i64 y5) rfl rfl ?_
      refine k_end ?_; intro e118 qe118
      have s2_e118 : e118 2 = .pointer (some ⟨g1, 0, none⟩) := (congrFun qe118 2).trans s2_e117
      have s3_e118 : e118 3 = .pointer (some ⟨g2, 0, none⟩) := (congrFun qe118 3).trans s3_e117
      have s4_e118 : e118 4 = .pointer (some ⟨g3, 0, none⟩) := (congrFun qe118 4).trans s4_e117
      have s5_e118 : e118 5 = .int .i64 y5 := congrFun qe118 5
      have s6_e118 : e118 6 = .int .i64 y5 := (congrFun qe118 6).trans s6_e117
      clear qe118
      refine wregionM field_Element_Plus.o5 (.tp 0 (.tp 1 (.tk 2 (.tp 3 (.tp 4 (.tk 5 (.tp 6 (.tp 7 (.ef 8 (.done)))))))))) [8] [(0, 0, 511), (1, 1, 511), (2, 2, 0), (0, 0, 511), (8, 8, 511), (16, 16, 0), (36, 36, 511), (127, 1, 511), (255, 511, 511)] rfl rfl (by kernel_rfl) (by kernel_rfl) (Nat.le_of_ble_eq_true (by kernel_rfl)) (by kernel_rfl) (by kernel_rfl) (by kernel_rfl) ?_
      have hp := hp.drew
      refine k_move (v := .int .i64 y5) rfl s5_e118 ?_
      obtain ⟨c6, h⟩ := chk_e h
      refine k_indexA (n := 5) (s := 1) (j := y5) rfl Try.underlying40 (by kernel_rfl) s2_e118 rfl c6 ?_
      refine k_load (j := (y5 : Int).toNat) (v := .int .u64 (y4.getD (y5 : Int).toNat 0)) rfl (by kernel_rfl) rfl (hp.get (j := 0) rfl) rfl (show 0 + (y5 : Int).toNat * 1 = 0 + (y5 : Int).toNat by omega) (ints_get (idx_lt c6 ly4)) ?_
      refine k_move (v := .int .i64 y5) rfl s5_e118 ?_
      refine k_indexA (n := 5) (s := 1) (j := y5) rfl Try.underlying40 (by kernel_rfl) s3_e118 rfl c6 ?_
      refine k_load (j := (y5 : Int).toNat) (v := .int .u64 (a1.getD (y5 : Int).toNat 0)) rfl (by kernel_rfl) rfl (hp.get (j := 1) rfl) rfl (show 0 + (y5 : Int).toNat * 1 = 0 + (y5 : Int).toNat by omega) (ints_get (idx_lt c6 la1)) ?_
      refine k_bin (X := .int .u64 (y4.getD (y5 : Int).toNat 0)) (Y := .int .u64 (a1.getD (y5 : Int).toNat 0)) rfl rfl rfl rfl ?_
      refine k_indexA (n := 5) (s := 1) (j := y5) rfl Try.underlying40 (by kernel_rfl) s2_e118 rfl c6 ?_
      refine k_store (v := .int .u64 (IntKind.u64.wrap ((y4.getD (y5 : Int).toNat 0) + (a1.getD (y5 : Int).toNat 0)))) 0 (y5 : Int).toNat (r := ⟨g1, 0, ints .u64 y4⟩) rfl (by kernel_rfl) rfl rfl rfl hp rfl rfl (show 0 + (y5 : Int).toNat * 1 = 0 + (y5 : Int).toNat by omega) (Nat.lt_of_lt_of_eq (idx_lt c6 ly4) (ints_length _ _).symm) (by decide) ?_; intro w hp; rw [ints_set] at hp
      refine k_end ?_; intro e119 qe119
      have s2_e119 : e119 2 = .pointer (some ⟨g1, 0, none⟩) := (congrFun qe119 2).trans s2_e118
      have s3_e119 : e119 3 = .pointer (some ⟨g2, 0, none⟩) := (congrFun qe119 3).trans s3_e118
      have s4_e119 : e119 4 = .pointer (some ⟨g3, 0, none⟩) := (congrFun qe119 4).trans s4_e118
      have s6_e119 : e119 6 = .int .i64 y5 := (congrFun qe119 6).trans s6_e118
      clear qe119
      obtain ⟨x7, qx7, h⟩ := lt_e h
      have lx7 : x7.length = 5 := (congrArg List.length qx7).trans (List.length_set.trans ly4)
      have hp : Hp w0 Ws w [⟨g1, 0, ints .u64 x7⟩, ⟨g2, 0, ints .u64 a1⟩, ⟨g3, 0, ints .u64 (List.replicate 5 (0 : Int))⟩] [] := by rw [qx7]; exact hp
      refine wregionT field_Element_Plus.o6 (.tp 0 (.tp 1 (.done))) [] rfl rfl (by kernel_rfl) (by kernel_rfl) ?_
      refine k_bin (X := .int .i64 y5) (Y := .int .i64 1) rfl s6_e119 rfl rfl ?_
      refine k_move (v := .int .i64 (IntKind.i64.wrap (y5 + 1))) rfl rfl ?_
      refine k_end ?_; intro e120 qe120
      have s2_e120 : e120 2 = .pointer (some ⟨g1, 0, none⟩) := (congrFun qe120 2).trans s2_e119
      have s3_e120 : e120 3 = .pointer (some ⟨g2, 0, none⟩) := (congrFun qe120 3).trans s3_e119
      have s4_e120 : e120 4 = .pointer (some ⟨g3, 0, none⟩) := (congrFun qe120 4).trans s4_e119
      obtain ⟨x8, qx8, h⟩ := lt_e h
      have s6_e120 : e120 6 = .int .i64 x8 := (congrFun qe120 6).trans (congrArg (Value.int .i64) qx8.symm)
      clear qe120
      exact ih x7 x8 _ _ lx7 s2_e120 s3_e120 s4_e120 s6_e120 (hp.drop (L' := [⟨g1, 0, ints .u64 x7⟩, ⟨g2, 0, ints .u64 a1⟩, ⟨g3, 0, ints .u64 (List.replicate 5 (0 : Int))⟩]) (List.Sublist.refl _)) h
    · replace h := br_f hb h
      refine wexit rfl ?_
      exact hQ0 _ _ y4 ly4 s2_e117 s4_e117 (hp.drop (L' := [⟨g1, 0, ints .u64 y4⟩, ⟨g2, 0, ints .u64 a1⟩, ⟨g3, 0, ints .u64 (List.replicate 5 (0 : Int))⟩]) (List.Sublist.refl _)) (Option.some.inj h).symm
theorem field_Element_Plus_ok (k : Nat) (a0 : List Int) (a1 : List Int) (la0 : a0.length = 5) (la1 : a1.length = 5) (w0 : World) (hp : Hp w0 [] w0 [] []) {r : List Int} (h : field_Element_Plus.f k a0 a1 = some r) :
    Calls Try.prog 53 [.agg (ints .u64 a0).toArray, .agg (ints .u64 a1).toArray].toArray w0 fun x w' => ∃ v, x = .returned v ∧ v = .agg (ints .u64 r).toArray ∧ r.length = 5 ∧ Hp w0 [] w' [] [] := by
  refine calls_inP Try.func53 rfl (Nat.le_of_ble_eq_true (by kernel_rfl)) (by kernel_rfl) ?_
  intro e0 qe0
  have s0_e0 : e0 0 = .agg (ints .u64 a0).toArray := congrFun qe0 0
  have s1_e0 : e0 1 = .agg (ints .u64 a1).toArray := congrFun qe0 1
  clear qe0
  unfold field_Element_Plus.f at h
  refine wseqP (p0 := [0]) (p1 := [1]) rfl rfl rfl ?_
  refine wregionT field_Element_Plus.o1 (.ef 0 (.ef 1 (.ef 2 (.done)))) [] rfl rfl (by kernel_rfl) (by kernel_rfl) ?_
  refine k_box (v := .agg (ints .u64 a0).toArray) (ints .u64 a0) rfl s0_e0 rfl hp ?_
  intro g1 w hbg1 hp
  refine k_box (v := .agg (ints .u64 a1).toArray) (ints .u64 a1) rfl s1_e0 rfl hp ?_
  intro g2 w hbg2 hp
  refine k_alloc (ints .u64 (List.replicate 5 (0 : Int))) rfl (by kernel_rfl) hp ?_
  intro g3 w hbg3 hp
  refine k_end ?_; intro e115 qe115
  have s2_e115 : e115 2 = .pointer (some ⟨g1, 0, none⟩) := congrFun qe115 2
  have s3_e115 : e115 3 = .pointer (some ⟨g2, 0, none⟩) := congrFun qe115 3
  have s4_e115 : e115 4 = .pointer (some ⟨g3, 0, none⟩) := congrFun qe115 4
  clear qe115
  refine wseqP (p0 := [1, 0]) (p1 := [1, 1]) rfl rfl rfl ?_
  refine wseqP (p0 := [1, 0, 0]) (p1 := [1, 0, 1]) rfl rfl rfl ?_
  refine wregionT field_Element_Plus.o2 (.tp 0 (.done)) [] rfl rfl (by kernel_rfl) (by kernel_rfl) ?_
  refine k_move (v := .int .i64 0) rfl rfl ?_
  refine k_end ?_; intro e116 qe116
  have s2_e116 : e116 2 = .pointer (some ⟨g1, 0, none⟩) := (congrFun qe116 2).trans s2_e115
  have s3_e116 : e116 3 = .pointer (some ⟨g2, 0, none⟩) := (congrFun qe116 3).trans s3_e115
  have s4_e116 : e116 4 = .pointer (some ⟨g3, 0, none⟩) := (congrFun qe116 4).trans s4_e115
  have s6_e116 : e116 6 = .int .i64 0 := congrFun qe116 6
  clear qe116
  refine wblockP (p0 := [1, 0, 1, 0]) 0 rfl rfl ?_
  obtain ⟨r9, qr9, h⟩ := bd_e h
  refine wloopP (p0 := [1, 0, 1, 0, 0]) k rfl rfl (field_Element_Plus.p1_ok g1 g2 g3 a1 la1 ?hq0 k a0 0 e116 _ la0 s2_e116 s3_e116 s4_e116 s6_e116 hp qr9)
  case hq0 =>
    intro e121 w m10 lm10 s2_e121 s4_e121 hp qq
    rw [qq] at h; clear qq
    refine wseqP (p0 := [1, 1, 0]) (p1 := [1, 1, 1]) rfl rfl rfl ?_
    refine wregionT field_Element_Plus.o7 (.tk 0 (.ef 1 (.ef 2 (.done)))) [2] rfl rfl (by kernel_rfl) (by kernel_rfl) ?_
    refine k_loadA (n := 5) (xs := ints .u64 m10) 0 rfl (by kernel_rfl) (by kernel_rfl) s2_e121 (hp.get (j := 0) rfl) rfl rfl ((ints_length _ _).trans lm10) (fun m v hm => by rw [Nat.zero_add]; exact hm) ?_
    obtain ⟨r11, qr11, h⟩ := bd_e h
    refine k_call [.agg (ints .u64 m10).toArray] rfl (by kernel_rfl) (args1 rfl) (field_Element_carried_ok m10 lm10 _ (hp.toR (fun _ h => by cases h)) qr11) ?_
    rintro _ w' ⟨_, rfl, rfl, lr110, hpc⟩
    refine ⟨_, rfl, .inr (.of_below hpc.chg.to_below), ?_⟩; have hp := hp.below hpc.chg.to_below; clear hpc
    refine k_storeA (v := .agg (ints .u64 r11).toArray) 2 0 (r := ⟨g3, 0, ints .u64 (List.replicate 5 (0 : Int))⟩) (ints .u64 r11) (ints .u64 r11) rfl (n := 5) (by kernel_rfl) s4_e121 rfl rfl ((ints_length _ _).trans lr110) (ints_one _ _) hp rfl rfl rfl (Nat.le_of_eq ((Nat.zero_add _).trans ((ints_length _ _).trans List.length_replicate).symm)) (setMany_all _ _ (((ints_length _ _).trans lr110).trans ((ints_length _ _).trans List.length_replicate).symm)) (by decide) ?_; intro w hp
    refine k_end ?_; intro e122 qe122
    have s4_e122 : e122 4 = .pointer (some ⟨g3, 0, none⟩) := (congrFun qe122 4).trans s4_e121
    clear qe122
    refine wret rfl ?_
    have hr : r = r11 := (Option.some.inj h).symm
    show RetP _ _ _ _ _
    rw [hr]
    exact ret_i [.agg (ints .u64 r11).toArray] (res_cell s4_e122 (loadVar_agg (by kernel_rfl) (by kernel_rfl) ((ints_length _ _).trans lr110) (hp.get (j := 2) rfl) rfl rfl rfl) res_nil) ⟨rfl, lr110, hp.none⟩
/-! 82 (postilion/field.Element).Power58 -/
noncomputable def field_Element_Power58.o1 : Array Oper := opsC (at_ (fbody Try.f82) [0])
noncomputable def field_Element_Power58.o2 : Array Oper := opsC (at_ (fbody Try.f82) [1, 0])
noncomputable def field_Element_Power58.o3 : Array Oper := opsC (at_ (fbody Try.f82) [1, 1, 0])
theorem field_Element_Power58_ok (k : Nat) (a0 : List Int) (la0 : a0.length = 5) (w0 : World) (hp : Hp w0 [] w0 [] []) {r : List Int} (h : field_Element_Power58.f k a0 = some r) :
    Calls Try.prog 82 [.agg (ints .u64 a0).toArray].toArray w0 fun x w' => ∃ v, x = .returned v ∧ v = .agg (ints .u64 r).toArray ∧ r.length = 5 ∧ Hp w0 [] w' [] [] := by
  refine calls_inP Try.func82 rfl (Nat.le_of_ble_eq_true (by kernel_rfl)) (by kernel_rfl) ?_
  intro e0 qe0
  have s0_e0 : e0 0 = .agg (ints .u64 a0).toArray := congrFun qe0 0
  clear qe0
  unfold field_Element_Power58.f at h
  refine wseqP (p0 := [0]) (p1 := [1]) rfl rfl rfl ?_
  refine wregionT field_Element_Power58.o1 (.ef 0 (.ef 1 (.done))) [] rfl rfl (by kernel_rfl) (by kernel_rfl) ?_
  refine k_box (v := .agg (ints .u64 a0).toArray) (ints .u64 a0) rfl s0_e0 rfl hp ?_
  intro g1 w hbg1 hp
  refine k_alloc (ints .u64 (List.replicate 5 (0 : Int))) rfl (by kernel_rfl) hp ?_
  intro g2 w hbg2 hp
  refine k_end ?_; intro e123 qe123
  have s1_e123 : e123 1 = .pointer (some ⟨g1, 0, none⟩) := congrFun qe123 1
  have s2_e123 : e123 2 = .pointer (some ⟨g2, 0, none⟩) := congrFun qe123 2
  clear qe123
  refine wseqP (p0 := [1, 0]) (p1 := [1, 1]) rfl rfl rfl ?_
  refine wregionT field_Element_Power58.o2 (.tk 0 (.ef 1 (.tp 2 (.tp 3 (.tp 4 (.ef 5 (.ef 6 (.ef 7 (.ef 8 (.done)))))))))) [7, 8] rfl rfl (by kernel_rfl) (by kernel_rfl) ?_
  refine k_loadA (n := 5) (xs := ints .u64 a0) 0 rfl (by kernel_rfl) (by kernel_rfl) s1_e123 (hp.get (j := 0) rfl) rfl rfl ((ints_length _ _).trans la0) (fun m v hm => by rw [Nat.zero_add]; exact hm) ?_
  obtain ⟨r3, qr3, h⟩ := bd_e h
  refine k_call [.agg (ints .u64 a0).toArray] rfl (by kernel_rfl) (args1 rfl) (field_Element_chain_ok k a0 la0 _ (hp.toR (fun _ h => by cases h)) qr3) ?_
  rintro _ w' ⟨_, rfl, rfl, lr30, lr31, hpc⟩
  refine ⟨_, rfl, .inr (.of_below hpc.chg.to_below), ?_⟩; have hp := hp.below hpc.chg.to_below; clear hpc
  refine k_move (v := .tuple #[.agg (ints .u64 r3.1).toArray, .agg (ints .u64 r3.2).toArray]) rfl rfl ?_
  refine k_extract (v := .agg (ints .u64 r3.1).toArray) rfl rfl rfl ?_
  refine k_extract (v := .agg (ints .u64 r3.2).toArray) rfl rfl rfl ?_
  refine k_alloc (ints .u64 (List.replicate 5 (0 : Int))) rfl (by kernel_rfl) hp ?_
  intro g4 w hbg4 hp
  refine k_alloc (ints .u64 (List.replicate 5 (0 : Int))) rfl (by kernel_rfl) hp ?_
  intro g5 w hbg5 hp
  refine k_storeA (v := .agg (ints .u64 r3.1).toArray) 2 0 (r := ⟨g4, 0, ints .u64 (List.replicate 5 (0 : Int))⟩) (ints .u64 r3.1) (ints .u64 r3.1) rfl (n := 5) (by kernel_rfl) rfl rfl rfl ((ints_length _ _).trans lr30) (ints_one _ _) hp rfl rfl rfl (Nat.le_of_eq ((Nat.zero_add _).trans ((ints_length _ _).trans List.length_replicate).symm)) (setMany_all _ _ (((ints_length _ _).trans lr30).trans ((ints_length _ _).trans List.length_replicate).symm)) (by decide) ?_; intro w hp
  refine k_storeA (v := .agg (ints .u64 r3.2).toArray) 3 0 (r := ⟨g5, 0, ints .u64 (List.replicate 5 (0 : Int))⟩) (ints .u64 r3.2) (ints .u64 r3.2) rfl (n := 5) (by kernel_rfl) rfl rfl rfl ((ints_length _ _).trans lr31) (ints_one _ _) hp rfl rfl rfl (Nat.le_of_eq ((Nat.zero_add _).trans ((ints_length _ _).trans List.length_replicate).symm)) (setMany_all _ _ (((ints_length _ _).trans lr31).trans ((ints_length _ _).trans List.length_replicate).symm)) (by decide) ?_; intro w hp
  refine k_end ?_; intro e124 qe124
  have s1_e124 : e124 1 = .pointer (some ⟨g1, 0, none⟩) := (congrFun qe124 1).trans s1_e123
  have s2_e124 : e124 2 = .pointer (some ⟨g2, 0, none⟩) := (congrFun qe124 2).trans s2_e123
  have s3_e124 : e124 3 = .pointer (some ⟨g4, 0, none⟩) := congrFun qe124 3
  clear qe124
  refine wseqP (p0 := [1, 1, 0]) (p1 := [1, 1, 1]) rfl rfl rfl ?_
  refine wregionM field_Element_Power58.o3 (.tk 0 (.tk 2 (.ef 1 (.ef 3 (.ef 4 (.done)))))) [4] [(0, 0, 0), (1, 31, 31), (0, 0, 0), (6, 31, 31), (15, 31, 31)] rfl rfl (by kernel_rfl) (by kernel_rfl) (Nat.le_of_ble_eq_true (by kernel_rfl)) (by kernel_rfl) (by kernel_rfl) (by kernel_rfl) ?_
  have hp := hp.drew
  refine k_loadA (n := 5) (xs := ints .u64 r3.1) 0 rfl (by kernel_rfl) (by kernel_rfl) s3_e124 (hp.get (j := 2) rfl) rfl rfl ((ints_length _ _).trans lr30) (fun m v hm => by rw [Nat.zero_add]; exact hm) ?_
  refine k_loadA (n := 5) (xs := ints .u64 a0) 0 rfl (by kernel_rfl) (by kernel_rfl) s1_e124 (hp.get (j := 0) rfl) rfl rfl ((ints_length _ _).trans la0) (fun m v hm => by rw [Nat.zero_add]; exact hm) ?_
  obtain ⟨r6, qr6, h⟩ := bd_e h
  refine k_call [.agg (ints .u64 r3.1).toArray, .int .i64 2] rfl (by kernel_rfl) (args2 rfl rfl) (field_Element_squared_ok k r3.1 2 lr30 _ (hp.toR (fun _ h => by cases h)) qr6) ?_
  rintro _ w' ⟨_, rfl, rfl, lr60, hpc⟩
  refine ⟨_, rfl, .inr (.of_below hpc.chg.to_below), ?_⟩; have hp := hp.below hpc.chg.to_below; clear hpc
  obtain ⟨r7, qr7, h⟩ := bd_e h
  refine k_call [.agg (ints .u64 r6).toArray, .agg (ints .u64 a0).toArray] rfl (by kernel_rfl) (args2 rfl rfl) (field_Element_Times_ok r6 a0 lr60 la0 _ (hp.toR (fun _ h => by cases h)) qr7) ?_
  rintro _ w' ⟨_, rfl, rfl, lr70, hpc⟩
  refine ⟨_, rfl, .inr (.of_below hpc.chg.to_below), ?_⟩; have hp := hp.below hpc.chg.to_below; clear hpc
  refine k_storeA (v := .agg (ints .u64 r7).toArray) 1 0 (r := ⟨g2, 0, ints .u64 (List.replicate 5 (0 : Int))⟩) (ints .u64 r7) (ints .u64 r7) rfl (n := 5) (by kernel_rfl) s2_e124 rfl rfl ((ints_length _ _).trans lr70) (ints_one _ _) hp rfl rfl rfl (Nat.le_of_eq ((Nat.zero_add _).trans ((ints_length _ _).trans List.length_replicate).symm)) (setMany_all _ _ (((ints_length _ _).trans lr70).trans ((ints_length _ _).trans List.length_replicate).symm)) (by decide) ?_; intro w hp
  refine k_end ?_; intro e125 qe125
  have s2_e125 : e125 2 = .pointer (some ⟨g2, 0, none⟩) := (congrFun qe125 2).trans s2_e124
  clear qe125
  refine wret rfl ?_
  have hr : r = r7 := (Option.some.inj h).symm
  show RetP _ _ _ _ _
  rw [hr]
  exact ret_i [.agg (ints .u64 r7).toArray] (res_cell s2_e125 (loadVar_agg (by kernel_rfl) (by kernel_rfl) ((ints_length _ _).trans lr70) (hp.get (j := 1) rfl) rfl rfl rfl) res_nil) ⟨rfl, lr70, hp.none⟩
/-! 54 (postilion/field.Element).Is -/
noncomputable def field_Element_Is.o1 : Array Oper := opsC (at_ (fbody Try.f54) [0])
noncomputable def field_Element_Is.o2 : Array Oper := opsC (at_ (fbody Try.f54) [1, 0])
theorem field_Element_Is_ok (k : Nat) (a0 : List Int) (a1 : List Int) (la0 : a0.length = 5) (la1 : a1.length = 5) (w0 : World) (hp : Hp w0 [] w0 [] []) {r : Bool} (h : field_Element_Is.f k a0 a1 = some r) :
    Calls Try.prog 54 [.agg (ints .u64 a0).toArray, .agg (ints .u64 a1).toArray].toArray w0 fun x w' => ∃ v, x = .returned v ∧ v = .bool r ∧ Hp w0 [] w' [] [] := by
  refine calls_inP Try.func54 rfl (Nat.le_of_ble_eq_true (by kernel_rfl)) (by kernel_rfl) ?_
  intro e0 qe0
  have s0_e0 : e0 0 = .agg (ints .u64 a0).toArray := congrFun qe0 0
  have s1_e0 : e0 1 = .agg (ints .u64 a1).toArray := congrFun qe0 1
  clear qe0
  unfold field_Element_Is.f at h
  refine wseqP (p0 := [0]) (p1 := [1]) rfl rfl rfl ?_
  refine wregionT field_Element_Is.o1 (.ef 0 (.ef 1 (.tp 2 (.done)))) [] rfl rfl (by kernel_rfl) (by kernel_rfl) ?_
  refine k_box (v := .agg (ints .u64 a0).toArray) (ints .u64 a0) rfl s0_e0 rfl hp ?_
  intro g1 w hbg1 hp
  refine k_box (v := .agg (ints .u64 a1).toArray) (ints .u64 a1) rfl s1_e0 rfl hp ?_
  intro g2 w hbg2 hp
  refine k_assign (v := .bool false) rfl rfl ?_
  refine k_end ?_; intro e126 qe126
  have s2_e126 : e126 2 = .pointer (some ⟨g1, 0, none⟩) := congrFun qe126 2
  have s3_e126 : e126 3 = .pointer (some ⟨g2, 0, none⟩) := congrFun qe126 3
  clear qe126
  refine wseqP (p0 := [1, 0]) (p1 := [1, 1]) rfl rfl rfl ?_
  refine wregionM field_Element_Is.o2 (.tk 0 (.tk 2 (.ef 1 (.ef 3 (.tp 4 (.tp 5 (.done))))))) [] [(0, 0, 0), (1, 63, 63), (0, 0, 0), (6, 63, 63), (10, 10, 63), (31, 16, 63)] rfl rfl (by kernel_rfl) (by kernel_rfl) (Nat.le_of_ble_eq_true (by kernel_rfl)) (by kernel_rfl) (by kernel_rfl) (by kernel_rfl) ?_
  have hp := hp.drew
  refine k_loadA (n := 5) (xs := ints .u64 a0) 0 rfl (by kernel_rfl) (by kernel_rfl) s2_e126 (hp.get (j := 0) rfl) rfl rfl ((ints_length _ _).trans la0) (fun m v hm => by rw [Nat.zero_add]; exact hm) ?_
  refine k_loadA (n := 5) (xs := ints .u64 a1) 0 rfl (by kernel_rfl) (by kernel_rfl) s3_e126 (hp.get (j := 1) rfl) rfl rfl ((ints_length _ _).trans la1) (fun m v hm => by rw [Nat.zero_add]; exact hm) ?_
  obtain ⟨r3, qr3, h⟩ := bd_e h
  refine k_call [.agg (ints .u64 a0).toArray] rfl (by kernel_rfl) (args1 rfl) (field_Element_Bytes_ok k a0 la0 _ (hp.toR (fun _ h => by cases h)) qr3) ?_
  rintro _ w' ⟨_, rfl, rfl, lr30, hpc⟩
  refine ⟨_, rfl, .inr (.of_below hpc.chg.to_below), ?_⟩; have hp := hp.below hpc.chg.to_below; clear hpc
  obtain ⟨r4, qr4, h⟩ := bd_e h
  refine k_call [.agg (ints .u64 a1).toArray] rfl (by kernel_rfl) (args1 rfl) (field_Element_Bytes_ok k a1 la1 _ (hp.toR (fun _ h => by cases h)) qr4) ?_
  rintro _ w' ⟨_, rfl, rfl, lr40, hpc⟩
  refine ⟨_, rfl, .inr (.of_below hpc.chg.to_below), ?_⟩; have hp := hp.below hpc.chg.to_below; clear hpc
  refine k_eqI (k := .u8) (l := r3) (l' := r4) rfl Try.underlying22 Try.underlying5 (by kernel_rfl) (by kernel_rfl) rfl rfl lr30 lr40 ?_
  refine k_assign (v := .bool (r3 == r4)) rfl rfl ?_
  refine k_end ?_; intro e127 qe127
  have s4_e127 : e127 4 = .bool (r3 == r4) := congrFun qe127 4
  clear qe127
  refine wret rfl ?_
  have hr : r = (r3 == r4) := (Option.some.inj h).symm
  show RetP _ _ _ _ _
  rw [hr]
  exact ret_i [.bool (r3 == r4)] (res_tmp s4_e127 res_nil) ⟨rfl, hp.none⟩
/-! 83 postilion/field.RootOfMinusOne -/
noncomputable def field_RootOfMinusOne.o1 : Array Oper := opsC (at_ (fbody Try.f83) [0])
noncomputable def field_RootOfMinusOne.o2 : Array Oper := opsC (at_ (fbody Try.f83) [1, 0])
theorem field_RootOfMinusOne_ok  (w0 : World) (hp : Hp w0 [] w0 [] []) {r : List Int} (h : field_RootOfMinusOne.f  = some r) :
    Calls Try.prog 83 [].toArray w0 fun x w' => ∃ v, x = .returned v ∧ v = .agg (ints .u64 r).toArray ∧ r.length = 5 ∧ Hp w0 [] w' [] [] := by
  refine calls_inP Try.func83 rfl (Nat.le_of_ble_eq_true (by kernel_rfl)) (by kernel_rfl) ?_
  intro e0 qe0
  clear qe0
  unfold field_RootOfMinusOne.f at h
  refine wseqP (p0 := [0]) (p1 := [1]) rfl rfl rfl ?_
  refine wregionT field_RootOfMinusOne.o1 (.ef 0 (.done)) [] rfl rfl (by kernel_rfl) (by kernel_rfl) ?_
  refine k_alloc (ints .u64 (List.replicate 5 (0 : Int))) rfl (by kernel_rfl) hp ?_
  intro g1 w hbg1 hp
  refine k_end ?_; intro e128 qe128
  have s0_e128 : e128 0 = .pointer (some ⟨g1, 0, none⟩) := congrFun qe128 0
  clear qe128
  refine wseqP (p0 := [1, 0]) (p1 := [1, 1]) rfl rfl rfl ?_
  refine wregionT field_RootOfMinusOne.o2 (.tp 0 (.ef 1 (.done))) [1] rfl rfl (by kernel_rfl) (by kernel_rfl) ?_
  refine k_build (v := .agg (ints .u64 [1718705420411056, 234908883556509, 2233514472574048, 2117202627021982, 765476049583133]).toArray) rfl (fun _ => by kernel_rfl) ?_
  refine k_storeA (v := .agg (ints .u64 [1718705420411056, 234908883556509, 2233514472574048, 2117202627021982, 765476049583133]).toArray) 0 0 (r := ⟨g1, 0, ints .u64 (List.replicate 5 (0 : Int))⟩) (ints .u64 [1718705420411056, 234908883556509, 2233514472574048, 2117202627021982, 765476049583133]) (ints .u64 [1718705420411056, 234908883556509, 2233514472574048, 2117202627021982, 765476049583133]) rfl (n := 5) (by kernel_rfl) s0_e128 rfl rfl ((ints_length _ _).trans (rfl : List.length ([1718705420411056, 234908883556509, 2233514472574048, 2117202627021982, 765476049583133] : List Int) = 5)) (ints_one _ _) hp rfl rfl rfl (Nat.le_of_eq ((Nat.zero_add _).trans ((ints_length _ _).trans List.length_replicate).symm)) (setMany_all _ _ (((ints_length _ _).trans (rfl : List.length ([1718705420411056, 234908883556509, 2233514472574048, 2117202627021982, 765476049583133] : List Int) = 5)).trans ((ints_length _ _).trans List.length_replicate).symm)) (by decide) ?_; intro w hp
  refine k_end ?_; intro e129 qe129
  have s0_e129 : e129 0 = .pointer (some ⟨g1, 0, none⟩) := (congrFun qe129 0).trans s0_e128
  clear qe129
  obtain ⟨x2, qx2, h⟩ := lt_e h
  have lx2 : x2.length = 5 := (congrArg List.length qx2).trans (rfl : List.length ([1718705420411056, 234908883556509, 2233514472574048, 2117202627021982, 765476049583133] : List Int) = 5)
  have hp : Hp w0 [] w [⟨g1, 0, ints .u64 x2⟩] [] := by rw [qx2]; exact hp
  refine wret rfl ?_
  have hr : r = x2 := (Option.some.inj h).symm
  show RetP _ _ _ _ _
  rw [hr]
  exact ret_i [.agg (ints .u64 x2).toArray] (res_cell s0_e129 (loadVar_agg (by kernel_rfl) (by kernel_rfl) ((ints_length _ _).trans lx2) (hp.get (j := 0) rfl) rfl rfl rfl) res_nil) ⟨rfl, lx2, hp.none⟩
/-! 49 postilion/field.Ratio -/
noncomputable def field_Ratio.o1 : Array Oper := opsC (at_ (fbody Try.f49) [0])
noncomputable def field_Ratio.o2 : Array Oper := opsC (at_ (fbody Try.f49) [1, 0])
noncomputable def field_Ratio.o3 : Array Oper := opsC (at_ (fbody Try.f49) [1, 1, 0])
noncomputable def field_Ratio.o4 : Array Oper := opsC (at_ (fbody Try.f49) [1, 1, 1, 0])
noncomputable def field_Ratio.o5 : Array Oper := opsC (at_ (fbody Try.f49) [1, 1, 1, 1, 0, 0])
noncomputable def field_Ratio.o6 : Array Oper := opsC (at_ (fbody Try.f49) [1, 1, 1, 1, 0, 1, 0, 0])
noncomputable def field_Ratio.o7 : Array Oper := opsC (at_ (fbody Try.f49) [1, 1, 1, 1, 0, 1, 0, 1])
noncomputable def field_Ratio.o8 : Array Oper := opsC (at_ (fbody Try.f49) [1, 1, 1, 1, 1, 0, 0])
noncomputable def field_Ratio.o9 : Array Oper := opsC (at_ (fbody Try.f49) [1, 1, 1, 1, 1, 0, 1, 0])
noncomputable def field_Ratio.o10 : Array Oper := opsC (at_ (fbody Try.f49) [1, 1, 1, 1, 1, 1, 0])
theorem field_Ratio.p1_ok {w0 : World} {Ws : List Wr} {Q : Exit → Env → World → Prop} (k : Nat) (g1 g13 g16 g2 g3 g6 : Nat) (r17 : Bool) (a0 : List Int) (a1 : List Int) (r5 : List Int) (r12 : List Int) (r15 : List Int) (la0 : a0.length = 5) (la1 : a1.length = 5) (lr50 : r5.length = 5) (lr120 : r12.length = 5) (lr150 : r15.length = 5) {r : List Int × List Int} (hQ0 : ∀ (e' : Env) (w' : World) (z0 : List Int) (z1 : List Int), z0.length = 5 → z1.length = 5 → e' 2 = .pointer (some ⟨g1, 0, none⟩) → e' 4 = .pointer (some ⟨g3, 0, none⟩) → e' 7 = .pointer (some ⟨g13, 0, none⟩) → e' 8 = .pointer (some ⟨g16, 0, none⟩) → Hp w0 Ws w' [⟨g1, 0, ints .u64 a0⟩, ⟨g2, 0, ints .u64 a1⟩, ⟨g3, 0, ints .u64 (List.replicate 5 (0 : Int))⟩, ⟨g6, 0, ints .u64 r5⟩, ⟨g13, 0, ints .u64 z0⟩, ⟨g16, 0, ints .u64 z1⟩] [] → r = (z0, z1) → Q .normal e' w') (e : Env) (w : World) (s2_e : e 2 = .pointer (some ⟨g1, 0, none⟩)) (s3_e : e 3 = .pointer (some ⟨g2, 0, none⟩)) (s4_e : e 4 = .pointer (some ⟨g3, 0, none⟩)) (s7_e : e 7 = .pointer (some ⟨g13, 0, none⟩)) (s8_e : e 8 = .pointer (some ⟨g16, 0, none⟩)) (s31_e : e 31 = .bool (!r17)) (hp : Hp w0 Ws w [⟨g1, 0, ints .u64 a0⟩, ⟨g2, 0, ints .u64 a1⟩, ⟨g3, 0, ints .u64 (List.replicate 5 (0 : Int))⟩, ⟨g6, 0, ints .u64 r5⟩, ⟨g13, 0, ints .u64 r12⟩, ⟨g16, 0, ints .u64 r15⟩] []) (h : field_Ratio.p1 k r17 a1 r12 r15 = some r) : Wp Try.prog Try.f49.ntmps (at_ (fbody Try.f49) [1, 1, 1, 1, 0, 1]) Q e w := by
  unfold field_Ratio.p1 at h
  refine wcondP (p0 := [1, 1, 1, 1, 0, 1, 0]) (p1 := [1, 1, 1, 1, 0, 1, 1]) (t := (!r17)) rfl rfl rfl (by decide) s31_e (fun hb => ?_) (fun hb => ?_)
  · replace h := br_t hb h
    refine wseqP (p0 := [1, 1, 1, 1, 0, 1, 0, 0]) (p1 := [1, 1, 1, 1, 0, 1, 0, 1]) rfl rfl rfl ?_
    refine wregionM field_Ratio.o6 (.tk 0 (.ef 1 (.ef 2 (.ef 3 (.done))))) [3] [(0, 0, 0), (0, 15, 15), (3, 15, 15), (7, 15, 15)] rfl rfl (by kernel_rfl) (by kernel_rfl) (Nat.le_of_ble_eq_true (by kernel_rfl)) (by kernel_rfl) (by kernel_rfl) (by kernel_rfl) ?_
    have hp := hp.drew
    refine k_loadA (n := 5) (xs := ints .u64 r12) 0 rfl (by kernel_rfl) (by kernel_rfl) s7_e (hp.get (j := 4) rfl) rfl rfl ((ints_length _ _).trans lr120) (fun m v hm => by rw [Nat.zero_add]; exact hm) ?_
    obtain ⟨r18, qr18, h⟩ := bd_e h
    refine k_call [] rfl (by kernel_rfl) (args0 ) (field_RootOfMinusOne_ok   _ (hp.toR (fun _ h => by cases h)) qr18) ?_
    rintro _ w' ⟨_, rfl, rfl, lr180, hpc⟩
    refine ⟨_, rfl, .inr (.of_below hpc.chg.to_below), ?_⟩; have hp := hp.below hpc.chg.to_below; clear hpc
    obtain ⟨r19, qr19, h⟩ := bd_e h
    refine k_call [.agg (ints .u64 r12).toArray, .agg (ints .u64 r18).toArray] rfl (by kernel_rfl) (args2 rfl rfl) (field_Element_Times_ok r12 r18 lr120 lr180 _ (hp.toR (fun _ h => by cases h)) qr19) ?_
    rintro _ w' ⟨_, rfl, rfl, lr190, hpc⟩
    refine ⟨_, rfl, .inr (.of_below hpc.chg.to_below), ?_⟩; have hp := hp.below hpc.chg.to_below; clear hpc
    refine k_storeA (v := .agg (ints .u64 r19).toArray) 4 0 (r := ⟨g13, 0, ints .u64 r12⟩) (ints .u64 r19) (ints .u64 r19) rfl (n := 5) (by kernel_rfl) s7_e rfl rfl ((ints_length _ _).trans lr190) (ints_one _ _) hp rfl rfl rfl (Nat.le_of_eq ((Nat.zero_add _).trans ((ints_length _ _).trans lr120).symm)) (setMany_all _ _ (((ints_length _ _).trans lr190).trans ((ints_length _ _).trans lr120).symm)) (by decide) ?_; intro w hp
    refine k_end ?_; intro e135 qe135
    have s2_e135 : e135 2 = .pointer (some ⟨g1, 0, none⟩) := (congrFun qe135 2).trans s2_e
    have s3_e135 : e135 3 = .pointer (some ⟨g2, 0, none⟩) := (congrFun qe135 3).trans s3_e
    have s4_e135 : e135 4 = .pointer (some ⟨g3, 0, none⟩) := (congrFun qe135 4).trans s4_e
    have s7_e135 : e135 7 = .pointer (some ⟨g13, 0, none⟩) := (congrFun qe135 7).trans s7_e
    have s8_e135 : e135 8 = .pointer (some ⟨g16, 0, none⟩) := (congrFun qe135 8).trans s8_e
    clear qe135
    refine wregionM field_Ratio.o7 (.tk 0 (.tk 1 (.ef 2 (.ef 3 (.ef 4 (.done)))))) [4] [(0, 0, 0), (0, 0, 0), (2, 31, 31), (5, 31, 31), (15, 31, 31)] rfl rfl (by kernel_rfl) (by kernel_rfl) (Nat.le_of_ble_eq_true (by kernel_rfl)) (by kernel_rfl) (by kernel_rfl) (by kernel_rfl) ?_
    have hp := hp.drew
    refine k_loadA (n := 5) (xs := ints .u64 a1) 0 rfl (by kernel_rfl) (by kernel_rfl) s3_e135 (hp.get (j := 1) rfl) rfl rfl ((ints_length _ _).trans la1) (fun m v hm => by rw [Nat.zero_add]; exact hm) ?_
    refine k_loadA (n := 5) (xs := ints .u64 r19) 0 rfl (by kernel_rfl) (by kernel_rfl) s7_e135 (hp.get (j := 4) rfl) rfl rfl ((ints_length _ _).trans lr190) (fun m v hm => by rw [Nat.zero_add]; exact hm) ?_
    obtain ⟨r20, qr20, h⟩ := bd_e h
    refine k_call [.agg (ints .u64 r19).toArray, .int .i64 1] rfl (by kernel_rfl) (args2 rfl rfl) (field_Element_squared_ok k r19 1 lr190 _ (hp.toR (fun _ h => by cases h)) qr20) ?_
    rintro _ w' ⟨_, rfl, rfl, lr200, hpc⟩
    refine ⟨_, rfl, .inr (.of_below hpc.chg.to_below), ?_⟩; have hp := hp.below hpc.chg.to_below; clear hpc
    obtain ⟨r21, qr21, h⟩ := bd_e h
    refine k_call [.agg (ints .u64 a1).toArray, .agg (ints .u64 r20).toArray] rfl (by kernel_rfl) (args2 rfl rfl) (field_Element_Times_ok a1 r20 la1 lr200 _ (hp.toR (fun _ h => by cases h)) qr21) ?_
    rintro _ w' ⟨_, rfl, rfl, lr210, hpc⟩
    refine ⟨_, rfl, .inr (.of_below hpc.chg.to_below), ?_⟩; have hp := hp.below hpc.chg.to_below; clear hpc
    refine k_storeA (v := .agg (ints .u64 r21).toArray) 5 0 (r := ⟨g16, 0, ints .u64 r15⟩) (ints .u64 r21) (ints .u64 r21) rfl (n := 5) (by kernel_rfl) s8_e135 rfl rfl ((ints_length _ _).trans lr210) (ints_one _ _) hp rfl rfl rfl (Nat.le_of_eq ((Nat.zero_add _).trans ((ints_length _ _).trans lr150).symm)) (setMany_all _ _ (((ints_length _ _).trans lr210).trans ((ints_length _ _).trans lr150).symm)) (by decide) ?_; intro w hp
    refine k_end ?_; intro e136 qe136
    have s2_e136 : e136 2 = .pointer (some ⟨g1, 0, none⟩) := (congrFun qe136 2).trans s2_e135
    have s4_e136 : e136 4 = .pointer (some ⟨g3, 0, none⟩) := (congrFun qe136 4).trans s4_e135
    have s7_e136 : e136 7 = .pointer (some ⟨g13, 0, none⟩) := (congrFun qe136 7).trans s7_e135
    have s8_e136 : e136 8 = .pointer (some ⟨g16, 0, none⟩) := (congrFun qe136 8).trans s8_e135
    clear qe136
    exact hQ0 _ _ r19 r21 lr190 lr210 s2_e136 s4_e136 s7_e136 s8_e136 (hp.drop (L' := [⟨g1, 0, ints .u64 a0⟩, ⟨g2, 0, ints .u64 a1⟩, ⟨g3, 0, ints .u64 (List.replicate 5 (0 : Int))⟩, ⟨g6, 0, ints .u64 r5⟩, ⟨g13, 0, ints .u64 r19⟩, ⟨g16, 0, ints .u64 r21⟩]) (List.Sublist.refl _)) (Option.some.inj h).symm
  · replace h := br_f hb h
    refine wskip rfl ?_
    exact hQ0 _ _ r12 r15 lr120 lr150 s2_e s4_e s7_e s8_e (hp.drop (L' := [⟨g1, 0, ints .u64 a0⟩, ⟨g2, 0, ints .u64 a1⟩, ⟨g3, 0, ints .u64 (List.replicate 5 (0 : Int))⟩, ⟨g6, 0, ints .u64 r5⟩, ⟨g13, 0, ints .u64 r12⟩, ⟨g16, 0, ints .u64 r15⟩]) (List.Sublist.refl _)) (Option.some.inj h).symm
theorem field_Ratio.p2_ok {w0 : World} {Ws : List Wr} {Q : Exit → Env → World → Prop} (g1 g13 g16 g2 g3 g6 : Nat) (r25 : Bool) (a0 : List Int) (a1 : List Int) (r5 : List Int) (m23 : List Int) (m24 : List Int) (la0 : a0.length = 5) (la1 : a1.length = 5) (lr50 : r5.length = 5) (lm23 : m23.length = 5) (lm24 : m24.length = 5) {r : List Int} (hQ0 : ∀ (e' : Env) (w' : World) (z0 : List Int), z0.length = 5 → e' 2 = .pointer (some ⟨g1, 0, none⟩) → e' 4 = .pointer (some ⟨g3, 0, none⟩) → e' 7 = .pointer (some ⟨g13, 0, none⟩) → e' 8 = .pointer (some ⟨g16, 0, none⟩) → Hp w0 Ws w' [⟨g1, 0, ints .u64 a0⟩, ⟨g2, 0, ints .u64 a1⟩, ⟨g3, 0, ints .u64 (List.replicate 5 (0 : Int))⟩, ⟨g6, 0, ints .u64 r5⟩, ⟨g13, 0, ints .u64 z0⟩, ⟨g16, 0, ints .u64 m24⟩] [] → r = (z0) → Q .normal e' w') (e : Env) (w : World) (s2_e : e 2 = .pointer (some ⟨g1, 0, none⟩)) (s4_e : e 4 = .pointer (some ⟨g3, 0, none⟩)) (s7_e : e 7 = .pointer (some ⟨g13, 0, none⟩)) (s8_e : e 8 = .pointer (some ⟨g16, 0, none⟩)) (s40_e : e 40 = .bool r25) (hp : Hp w0 Ws w [⟨g1, 0, ints .u64 a0⟩, ⟨g2, 0, ints .u64 a1⟩, ⟨g3, 0, ints .u64 (List.replicate 5 (0 : Int))⟩, ⟨g6, 0, ints .u64 r5⟩, ⟨g13, 0, ints .u64 m23⟩, ⟨g16, 0, ints .u64 m24⟩] []) (h : field_Ratio.p2 r25 m23 = some r) : Wp Try.prog Try.f49.ntmps (at_ (fbody Try.f49) [1, 1, 1, 1, 1, 0, 1]) Q e w := by
  unfold field_Ratio.p2 at h
  refine wcondP (p0 := [1, 1, 1, 1, 1, 0, 1, 0]) (p1 := [1, 1, 1, 1, 1, 0, 1, 1]) (t := r25) rfl rfl rfl (by decide) s40_e (fun hb => ?_) (fun hb => ?_)
  · replace h := br_t hb h
    refine wregionT field_Ratio.o9 (.tp 0 (.tk 1 (.ef 2 (.ef 3 (.done))))) [3] rfl rfl (by kernel_rfl) (by kernel_rfl) ?_
    refine k_build (v := .agg (ints .u64 (List.replicate 5 (0 : Int))).toArray) rfl (fun _ => by kernel_rfl) ?_
    refine k_loadA (n := 5) (xs := ints .u64 m23) 0 rfl (by kernel_rfl) (by kernel_rfl) s7_e (hp.get (j := 4) rfl) rfl rfl ((ints_length _ _).trans lm23) (fun m v hm => by rw [Nat.zero_add]; exact hm) ?_
    obtain ⟨r26, qr26, h⟩ := bd_e h
    refine k_call [.agg (ints .u64 (List.replicate 5 (0 : Int))).toArray, .agg (ints .u64 m23).toArray] rfl (by kernel_rfl) (args2 rfl rfl) (field_Element_Minus_ok (List.replicate 5 (0 : Int)) m23 List.length_replicate lm23 _ (hp.toR (fun _ h => by cases h)) qr26) ?_
    rintro _ w' ⟨_, rfl, rfl, lr260, hpc⟩
    refine ⟨_, rfl, .inr (.of_below hpc.chg.to_below), ?_⟩; have hp := hp.below hpc.chg.to_below; clear hpc
    refine k_storeA (v := .agg (ints .u64 r26).toArray) 4 0 (r := ⟨g13, 0, ints .u64 m23⟩) (ints .u64 r26) (ints .u64 r26) rfl (n := 5) (by kernel_rfl) s7_e rfl rfl ((ints_length _ _).trans lr260) (ints_one _ _) hp rfl rfl rfl (Nat.le_of_eq ((Nat.zero_add _).trans ((ints_length _ _).trans lm23).symm)) (setMany_all _ _ (((ints_length _ _).trans lr260).trans ((ints_length _ _).trans lm23).symm)) (by decide) ?_; intro w hp
    refine k_end ?_; intro e139 qe139
    have s2_e139 : e139 2 = .pointer (some ⟨g1, 0, none⟩) := (congrFun qe139 2).trans s2_e
    have s4_e139 : e139 4 = .pointer (some ⟨g3, 0, none⟩) := (congrFun qe139 4).trans s4_e
    have s7_e139 : e139 7 = .pointer (some ⟨g13, 0, none⟩) := (congrFun qe139 7).trans s7_e
    have s8_e139 : e139 8 = .pointer (some ⟨g16, 0, none⟩) := (congrFun qe139 8).trans s8_e
    clear qe139
    exact hQ0 _ _ r26 lr260 s2_e139 s4_e139 s7_e139 s8_e139 (hp.drop (L' := [⟨g1, 0, ints .u64 a0⟩, ⟨g2, 0, ints .u64 a1⟩, ⟨g3, 0, ints .u64 (List.replicate 5 (0 : Int))⟩, ⟨g6, 0, ints .u64 r5⟩, ⟨g13, 0, ints .u64 r26⟩, ⟨g16, 0, ints .u64 m24⟩]) (List.Sublist.refl _)) (Option.some.inj h).symm
  · replace h := br_f hb h
    refine wskip rfl ?_
    exact hQ0 _ _ m23 lm23 s2_e s4_e s7_e s8_e (hp.drop (L' := [⟨g1, 0, ints .u64 a0⟩, ⟨g2, 0, ints .u64 a1⟩, ⟨g3, 0, ints .u64 (List.replicate 5 (0 : Int))⟩, ⟨g6, 0, ints .u64 r5⟩, ⟨g13, 0, ints .u64 m23⟩, ⟨g16, 0, ints .u64 m24⟩]) (List.Sublist.refl _)) (Option.some.inj h).symm
set_option maxHeartbeats 4000000 in
theorem field_Ratio_ok (k : Nat) (a0 : List Int) (a1 : List Int) (la0 : a0.length = 5) (la1 : a1.length = 5) (w0 : World) (hp : Hp w0 [] w0 [] []) {r : List Int × Bool} (h : field_Ratio.f k a0 a1 = some r) :
    Calls Try.prog 49 [.agg (ints .u64 a0).toArray, .agg (ints .u64 a1).toArray].toArray w0 fun x w' => ∃ v, x = .returned v ∧ v = .tuple #[.agg (ints .u64 r.1).toArray, .bool r.2] ∧ r.1.length = 5 ∧ Hp w0 [] w' [] [] := by
  refine calls_inP Try.func49 rfl (Nat.le_of_ble_eq_true (by kernel_rfl)) (by kernel_rfl) ?_
  intro e0 qe0
  have s0_e0 : e0 0 = .agg (ints .u64 a0).toArray := congrFun qe0 0
  have s1_e0 : e0 1 = .agg (ints .u64 a1).toArray := congrFun qe0 1
  clear qe0
  unfold field_Ratio.f at h
  refine wseqP (p0 := [0]) (p1 := [1]) rfl rfl rfl ?_
  refine wregionT field_Ratio.o1 (.ef 0 (.ef 1 (.ef 2 (.tp 3 (.done))))) [] rfl rfl (by kernel_rfl) (by kernel_rfl) ?_
  refine k_box (v := .agg (ints .u64 a0).toArray) (ints .u64 a0) rfl s0_e0 rfl hp ?_
  intro g1 w hbg1 hp
  refine k_box (v := .agg (ints .u64 a1).toArray) (ints .u64 a1) rfl s1_e0 rfl hp ?_
  intro g2 w hbg2 hp
  refine k_alloc (ints .u64 (List.replicate 5 (0 : Int))) rfl (by kernel_rfl) hp ?_
  intro g3 w hbg3 hp
  refine k_assign (v := .bool false) rfl rfl ?_
  refine k_end ?_; intro e130 qe130
  have s2_e130 : e130 2 = .pointer (some ⟨g1, 0, none⟩) := congrFun qe130 2
  have s3_e130 : e130 3 = .pointer (some ⟨g2, 0, none⟩) := congrFun qe130 3
  have s4_e130 : e130 4 = .pointer (some ⟨g3, 0, none⟩) := congrFun qe130 4
  clear qe130
  refine wseqP (p0 := [1, 0]) (p1 := [1, 1]) rfl rfl rfl ?_
  obtain ⟨r4, qr4, h⟩ := bd_e h
  obtain ⟨r5, qr5, h⟩ := bd_e h
  refine wcut (fun e131 w2 => ∃ g6 : Nat, (((r5.length = 5 ∧ e131 2 = .pointer (some ⟨g1, 0, none⟩)) ∧ e131 3 = .pointer (some ⟨g2, 0, none⟩)) ∧ (e131 4 = .pointer (some ⟨g3, 0, none⟩) ∧ e131 6 = .pointer (some ⟨g6, 0, none⟩))) ∧ Hp w0 [] w2 [⟨g1, 0, ints .u64 a0⟩, ⟨g2, 0, ints .u64 a1⟩, ⟨g3, 0, ints .u64 (List.replicate 5 (0 : Int))⟩, ⟨g6, 0, ints .u64 r5⟩] []) ?_ ?_
  rotate_left
  · refine wregionM field_Ratio.o2 (.tk 0 (.tk 2 (.rest 5 4))) [5] [(0, 0, 0), (1, 63, 63), (0, 0, 0), (6, 63, 63), (0, 63, 63), (31, 63, 63)] rfl rfl (by kernel_rfl) (by kernel_rfl) (Nat.le_of_ble_eq_true (by kernel_rfl)) (by kernel_rfl) (by kernel_rfl) (by kernel_rfl) ?_
    have hp := hp.drew
    refine k_loadA (n := 5) (xs := ints .u64 a1) 0 rfl (by kernel_rfl) (by kernel_rfl) s3_e130 (hp.get (j := 1) rfl) rfl rfl ((ints_length _ _).trans la1) (fun m v hm => by rw [Nat.zero_add]; exact hm) ?_
    refine k_loadA (n := 5) (xs := ints .u64 a1) 0 rfl (by kernel_rfl) (by kernel_rfl) s3_e130 (hp.get (j := 1) rfl) rfl rfl ((ints_length _ _).trans la1) (fun m v hm => by rw [Nat.zero_add]; exact hm) ?_
    refine k_rest [1, 3, 4, 5] (fun L e w => ∃ g6 : Nat, ∃ c_g6_0 : List Int, (((((L 1 = true → r4.length = 5) ∧ (L 3 = true → r5.length = 5)) ∧ (((e 2 = .pointer (some ⟨g1, 0, none⟩) ∧ e 3 = .pointer (some ⟨g2, 0, none⟩)) ∧ e 4 = .pointer (some ⟨g3, 0, none⟩)) ∧ (e 9 = .agg (ints .u64 a1).toArray ∧ e 11 = .agg (ints .u64 a1).toArray))) ∧ ((L 1 = true → e 10 = .agg (ints .u64 r4).toArray) ∧ (L 3 = true → e 12 = .agg (ints .u64 r5).toArray))) ∧ (((L 4 = true → e 6 = .pointer (some ⟨g6, 0, none⟩)) ∧ (L 4 = false → c_g6_0 = ([] : List Int))) ∧ ((L 5 = false → L 4 = true → c_g6_0 = (List.replicate 5 (0 : Int))) ∧ (L 5 = true → c_g6_0 = r5)))) ∧ Hp w0 [] w [⟨g1, 0, ints .u64 a0⟩, ⟨g2, 0, ints .u64 a1⟩, ⟨g3, 0, ints .u64 (List.replicate 5 (0 : Int))⟩, ⟨g6, 0, ints .u64 c_g6_0⟩] []) (by kernel_rfl) (by kernel_rfl) ?_ ?_ ?_
    have hp := hp.free1 0 0
    · exact ⟨0, ([] : List Int), ⟨⟨⟨⟨(fun h => absurd h (by decide)), (fun h => absurd h (by decide))⟩, ⟨⟨⟨s2_e130, s3_e130⟩, s4_e130⟩, ⟨rfl, rfl⟩⟩⟩, ⟨(fun h => absurd h (by decide)), (fun h => absurd h (by decide))⟩⟩, ⟨⟨(fun h => absurd h (by decide)), (fun _ => rfl)⟩, ⟨(fun _ h => absurd h (by decide)), (fun h => absurd h (by decide))⟩⟩⟩, hp⟩
    · rintro L e w hall ⟨g6, c_g6_0, hF, hp⟩
      have qc_g6_0 := hF.2.2.2 (hall 5 rfl)
      rw [qc_g6_0] at hp
      exact onlyN_i ⟨g6, ⟨⟨⟨(hF.1.1.1.2 (hall 3 rfl)), hF.1.1.2.1.1.1⟩, hF.1.1.2.1.1.2⟩, ⟨hF.1.1.2.1.2, (hF.2.1.1 (hall 4 rfl))⟩⟩, hp⟩
    refine allU_cons ?_ ?_
    · rintro L e w hLi hb hcl ⟨g6, c_g6_0, hF, hp⟩
      refine k_call [.agg (ints .u64 a1).toArray, .int .i64 1] rfl (by kernel_rfl) (args2 hF.1.1.2.2.1 rfl) (field_Element_squared_ok k a1 1 la1 _ (hp.toR (fun _ h => by cases h)) qr4) ?_
      rintro _ w' ⟨_, rfl, rfl, lr40, hpc⟩
      refine ⟨_, rfl, .inr (.of_below hpc.chg.to_below), ?_⟩; have hp := hp.below hpc.chg.to_below; clear hpc
      exact k_done ⟨g6, c_g6_0, ⟨⟨⟨⟨(fun _ => lr40), hF.1.1.1.2⟩, hF.1.1.2⟩, ⟨(fun _ => rfl), hF.1.2.2⟩⟩, hF.2⟩, hp⟩
    refine allU_cons ?_ ?_
    · rintro L e w hLi hb hcl ⟨g6, c_g6_0, hF, hp⟩
      have hL1 := hb 1 (by kernel_rfl)
      have lr40 := hF.1.1.1.1 hL1
      refine k_call [.agg (ints .u64 r4).toArray, .agg (ints .u64 a1).toArray] rfl (by kernel_rfl) (args2 (hF.1.2.1 hL1) hF.1.1.2.2.2) (field_Element_Times_ok r4 a1 lr40 la1 _ (hp.toR (fun _ h => by cases h)) qr5) ?_
      rintro _ w' ⟨_, rfl, rfl, lr50, hpc⟩
      refine ⟨_, rfl, .inr (.of_below hpc.chg.to_below), ?_⟩; have hp := hp.below hpc.chg.to_below; clear hpc
      exact k_done ⟨g6, c_g6_0, ⟨⟨⟨⟨hF.1.1.1.1, (fun _ => lr50)⟩, hF.1.1.2⟩, ⟨hF.1.2.1, (fun _ => rfl)⟩⟩, hF.2⟩, hp⟩
    refine allU_cons ?_ ?_
    · rintro L e w hLi hb hcl ⟨g6, c_g6_0, hF, hp⟩
      have qc_g6_0 := hF.2.1.2 hLi
      rw [qc_g6_0] at hp
      refine k_allocAt 3 (ints .u64 (List.replicate 5 (0 : Int))) rfl (by kernel_rfl) hp ?_
      intro g6 w hbg6 hp
      exact k_done ⟨g6, (List.replicate 5 (0 : Int)), ⟨hF.1, ⟨⟨(fun _ => rfl), (fun h => nomatch (show true = false from h))⟩, ⟨(fun _ _ => rfl), (fun h => absurd (hLi.symm.trans (hcl 5 4 (by kernel_rfl) h)) (by decide))⟩⟩⟩, hp⟩
    refine allU_cons ?_ allU_nil
    · rintro L e w hLi hb hcl ⟨g6, c_g6_0, hF, hp⟩
      have hL3 := hb 3 (by kernel_rfl)
      have hL4 := hb 4 (by kernel_rfl)
      have lr50 := hF.1.1.1.2 hL3
      have qc_g6_0 := hF.2.2.1 hLi hL4
      rw [qc_g6_0] at hp
      refine k_storeA (v := .agg (ints .u64 r5).toArray) 3 0 (r := ⟨g6, 0, ints .u64 (List.replicate 5 (0 : Int))⟩) (ints .u64 r5) (ints .u64 r5) rfl (n := 5) (by kernel_rfl) (hF.2.1.1 hL4) (hF.1.2.2 hL3) rfl ((ints_length _ _).trans lr50) (ints_one _ _) hp rfl rfl rfl (Nat.le_of_eq ((Nat.zero_add _).trans ((ints_length _ _).trans List.length_replicate).symm)) (setMany_all _ _ (((ints_length _ _).trans lr50).trans ((ints_length _ _).trans List.length_replicate).symm)) (by decide) ?_; intro w hp
      exact k_done ⟨g6, r5, ⟨hF.1, ⟨⟨hF.2.1.1, (fun h => absurd (hL4.symm.trans h) (by decide))⟩, ⟨(fun h _ => nomatch (show true = false from h)), (fun _ => rfl)⟩⟩⟩, hp⟩
  rintro e131 w ⟨g6, hF, hp⟩
  have lr50 := hF.1.1.1
  have s2_e131 := hF.1.1.2
  have s3_e131 := hF.1.2
  have s4_e131 := hF.2.1
  have s6_e131 := hF.2.2
  clear hF
  refine wseqP (p0 := [1, 1, 0]) (p1 := [1, 1, 1]) rfl rfl rfl ?_
  obtain ⟨r7, qr7, h⟩ := bd_e h
  obtain ⟨r8, qr8, h⟩ := bd_e h
  obtain ⟨r9, qr9, h⟩ := bd_e h
  obtain ⟨r10, qr10, h⟩ := bd_e h
  obtain ⟨r11, qr11, h⟩ := bd_e h
  obtain ⟨r12, qr12, h⟩ := bd_e h
  refine wcut (fun e132 w2 => ∃ g13 : Nat, (((r12.length = 5 ∧ e132 2 = .pointer (some ⟨g1, 0, none⟩)) ∧ e132 3 = .pointer (some ⟨g2, 0, none⟩)) ∧ (e132 4 = .pointer (some ⟨g3, 0, none⟩) ∧ e132 7 = .pointer (some ⟨g13, 0, none⟩))) ∧ Hp w0 [] w2 [⟨g1, 0, ints .u64 a0⟩, ⟨g2, 0, ints .u64 a1⟩, ⟨g3, 0, ints .u64 (List.replicate 5 (0 : Int))⟩, ⟨g6, 0, ints .u64 r5⟩, ⟨g13, 0, ints .u64 r12⟩] []) ?_ ?_
  rotate_left
  · refine wregionM field_Ratio.o3 (.tk 0 (.tk 1 (.tk 3 (.tk 4 (.tk 7 (.rest 155 8)))))) [12] [(0, 0, 0), (0, 0, 0), (3, 8191, 8191), (0, 0, 0), (0, 0, 0), (20, 8191, 8191), (40, 8191, 8191), (0, 0, 0), (192, 8191, 8191), (256, 8191, 8191), (516, 8191, 8191), (0, 8191, 8191), (4095, 8191, 8191)] rfl rfl (by kernel_rfl) (by kernel_rfl) (Nat.le_of_ble_eq_true (by kernel_rfl)) (by kernel_rfl) (by kernel_rfl) (by kernel_rfl) ?_
    have hp := hp.drew
    refine k_loadA (n := 5) (xs := ints .u64 a0) 0 rfl (by kernel_rfl) (by kernel_rfl) s2_e131 (hp.get (j := 0) rfl) rfl rfl ((ints_length _ _).trans la0) (fun m v hm => by rw [Nat.zero_add]; exact hm) ?_
    refine k_loadA (n := 5) (xs := ints .u64 r5) 0 rfl (by kernel_rfl) (by kernel_rfl) s6_e131 (hp.get (j := 3) rfl) rfl rfl ((ints_length _ _).trans lr50) (fun m v hm => by rw [Nat.zero_add]; exact hm) ?_
    refine k_loadA (n := 5) (xs := ints .u64 a0) 0 rfl (by kernel_rfl) (by kernel_rfl) s2_e131 (hp.get (j := 0) rfl) rfl rfl ((ints_length _ _).trans la0) (fun m v hm => by rw [Nat.zero_add]; exact hm) ?_
    refine k_loadA (n := 5) (xs := ints .u64 r5) 0 rfl (by kernel_rfl) (by kernel_rfl) s6_e131 (hp.get (j := 3) rfl) rfl rfl ((ints_length _ _).trans lr50) (fun m v hm => by rw [Nat.zero_add]; exact hm) ?_
    refine k_loadA (n := 5) (xs := ints .u64 a1) 0 rfl (by kernel_rfl) (by kernel_rfl) s3_e131 (hp.get (j := 1) rfl) rfl rfl ((ints_length _ _).trans la1) (fun m v hm => by rw [Nat.zero_add]; exact hm) ?_
    refine k_rest [2, 5, 6, 8, 9, 10, 11, 12] (fun L e w => ∃ g13 : Nat, ∃ c_g13_0 : List Int, ((((((L 2 = true → r7.length = 5) ∧ (L 5 = true → r8.length = 5)) ∧ (L 6 = true → r9.length = 5)) ∧ ((L 8 = true → r10.length = 5) ∧ (L 9 = true → r11.length = 5))) ∧ (((L 10 = true → r12.length = 5) ∧ (((e 2 = .pointer (some ⟨g1, 0, none⟩) ∧ e 3 = .pointer (some ⟨g2, 0, none⟩)) ∧ (e 4 = .pointer (some ⟨g3, 0, none⟩) ∧ e 13 = .agg (ints .u64 a0).toArray)) ∧ ((e 14 = .agg (ints .u64 r5).toArray ∧ e 16 = .agg (ints .u64 a0).toArray) ∧ (e 17 = .agg (ints .u64 r5).toArray ∧ e 20 = .agg (ints .u64 a1).toArray)))) ∧ ((L 2 = true → e 15 = .agg (ints .u64 r7).toArray) ∧ (L 5 = true → e 18 = .agg (ints .u64 r8).toArray)))) ∧ ((((L 6 = true → e 19 = .agg (ints .u64 r9).toArray) ∧ (L 8 = true → e 21 = .agg (ints .u64 r10).toArray)) ∧ ((L 9 = true → e 22 = .agg (ints .u64 r11).toArray) ∧ (L 10 = true → e 23 = .agg (ints .u64 r12).toArray))) ∧ (((L 11 = true → e 7 = .pointer (some ⟨g13, 0, none⟩)) ∧ (L 11 = false → c_g13_0 = ([] : List Int))) ∧ ((L 12 = false → L 11 = true → c_g13_0 = (List.replicate 5 (0 : Int))) ∧ (L 12 = true → c_g13_0 = r12))))) ∧ Hp w0 [] w [⟨g1, 0, ints .u64 a0⟩, ⟨g2, 0, ints .u64 a1⟩, ⟨g3, 0, ints .u64 (List.replicate 5 (0 : Int))⟩, ⟨g6, 0, ints .u64 r5⟩, ⟨g13, 0, ints .u64 c_g13_0⟩] []) (by kernel_rfl) (by kernel_rfl) ?_ ?_ ?_
    have hp := hp.free1 0 0
    · exact ⟨0, ([] : List Int), ⟨⟨⟨⟨⟨(fun h => absurd h (by decide)), (fun h => absurd h (by decide))⟩, (fun h => absurd h (by decide))⟩, ⟨(fun h => absurd h (by decide)), (fun h => absurd h (by decide))⟩⟩, ⟨⟨(fun h => absurd h (by decide)), ⟨⟨⟨s2_e131, s3_e131⟩, ⟨s4_e131, rfl⟩⟩, ⟨⟨rfl, rfl⟩, ⟨rfl, rfl⟩⟩⟩⟩, ⟨(fun h => absurd h (by decide)), (fun h => absurd h (by decide))⟩⟩⟩, ⟨⟨⟨(fun h => absurd h (by decide)), (fun h => absurd h (by decide))⟩, ⟨(fun h => absurd h (by decide)), (fun h => absurd h (by decide))⟩⟩, ⟨⟨(fun h => absurd h (by decide)), (fun _ => rfl)⟩, ⟨(fun _ h => absurd h (by decide)), (fun h => absurd h (by decide))⟩⟩⟩⟩, hp⟩
    · rintro L e w hall ⟨g13, c_g13_0, hF, hp⟩
      have qc_g13_0 := hF.2.2.2.2 (hall 12 rfl)
      rw [qc_g13_0] at hp
      exact onlyN_i ⟨g13, ⟨⟨⟨(hF.1.2.1.1 (hall 10 rfl)), hF.1.2.1.2.1.1.1⟩, hF.1.2.1.2.1.1.2⟩, ⟨hF.1.2.1.2.1.2.1, (hF.2.2.1.1 (hall 11 rfl))⟩⟩, hp⟩
    refine allU_cons ?_ ?_
    · rintro L e w hLi hb hcl ⟨g13, c_g13_0, hF, hp⟩
      refine k_call [.agg (ints .u64 a0).toArray, .agg (ints .u64 r5).toArray] rfl (by kernel_rfl) (args2 hF.1.2.1.2.1.2.2 hF.1.2.1.2.2.1.1) (field_Element_Times_ok a0 r5 la0 lr50 _ (hp.toR (fun _ h => by cases h)) qr7) ?_
      rintro _ w' ⟨_, rfl, rfl, lr70, hpc⟩
      refine ⟨_, rfl, .inr (.of_below hpc.chg.to_below), ?_⟩; have hp := hp.below hpc.chg.to_below; clear hpc
      exact k_done ⟨g13, c_g13_0, ⟨⟨⟨⟨⟨(fun _ => lr70), hF.1.1.1.1.2⟩, hF.1.1.1.2⟩, hF.1.1.2⟩, ⟨hF.1.2.1, ⟨(fun _ => rfl), hF.1.2.2.2⟩⟩⟩, hF.2⟩, hp⟩
    refine allU_cons ?_ ?_
    · rintro L e w hLi hb hcl ⟨g13, c_g13_0, hF, hp⟩
      refine k_call [.agg (ints .u64 r5).toArray, .int .i64 1] rfl (by kernel_rfl) (args2 hF.1.2.1.2.2.2.1 rfl) (field_Element_squared_ok k r5 1 lr50 _ (hp.toR (fun _ h => by cases h)) qr8) ?_
      rintro _ w' ⟨_, rfl, rfl, lr80, hpc⟩
      refine ⟨_, rfl, .inr (.of_below hpc.chg.to_below), ?_⟩; have hp := hp.below hpc.chg.to_below; clear hpc
      exact k_done ⟨g13, c_g13_0, ⟨⟨⟨⟨⟨hF.1.1.1.1.1, (fun _ => lr80)⟩, hF.1.1.1.2⟩, hF.1.1.2⟩, ⟨hF.1.2.1, ⟨hF.1.2.2.1, (fun _ => rfl)⟩⟩⟩, hF.2⟩, hp⟩
    refine allU_cons ?_ ?_
    · rintro L e w hLi hb hcl ⟨g13, c_g13_0, hF, hp⟩
      have hL5 := hb 5 (by kernel_rfl)
      have lr80 := hF.1.1.1.1.2 hL5
      refine k_call [.agg (ints .u64 a0).toArray, .agg (ints .u64 r8).toArray] rfl (by kernel_rfl) (args2 hF.1.2.1.2.2.1.2 (hF.1.2.2.2 hL5)) (field_Element_Times_ok a0 r8 la0 lr80 _ (hp.toR (fun _ h => by cases h)) qr9) ?_
      rintro _ w' ⟨_, rfl, rfl, lr90, hpc⟩
      refine ⟨_, rfl, .inr (.of_below hpc.chg.to_below), ?_⟩; have hp := hp.below hpc.chg.to_below; clear hpc
      exact k_done ⟨g13, c_g13_0, ⟨⟨⟨⟨hF.1.1.1.1, (fun _ => lr90)⟩, hF.1.1.2⟩, hF.1.2⟩, ⟨⟨⟨(fun _ => rfl), hF.2.1.1.2⟩, hF.2.1.2⟩, hF.2.2⟩⟩, hp⟩
    refine allU_cons ?_ ?_
    · rintro L e w hLi hb hcl ⟨g13, c_g13_0, hF, hp⟩
      have hL6 := hb 6 (by kernel_rfl)
      have lr90 := hF.1.1.1.2 hL6
      refine k_call [.agg (ints .u64 r9).toArray, .agg (ints .u64 a1).toArray] rfl (by kernel_rfl) (args2 (hF.2.1.1.1 hL6) hF.1.2.1.2.2.2.2) (field_Element_Times_ok r9 a1 lr90 la1 _ (hp.toR (fun _ h => by cases h)) qr10) ?_
      rintro _ w' ⟨_, rfl, rfl, lr100, hpc⟩
      refine ⟨_, rfl, .inr (.of_below hpc.chg.to_below), ?_⟩; have hp := hp.below hpc.chg.to_below; clear hpc
      exact k_done ⟨g13, c_g13_0, ⟨⟨⟨hF.1.1.1, ⟨(fun _ => lr100), hF.1.1.2.2⟩⟩, hF.1.2⟩, ⟨⟨⟨hF.2.1.1.1, (fun _ => rfl)⟩, hF.2.1.2⟩, hF.2.2⟩⟩, hp⟩
    refine allU_cons ?_ ?_
    · rintro L e w hLi hb hcl ⟨g13, c_g13_0, hF, hp⟩
      have hL8 := hb 8 (by kernel_rfl)
      have lr100 := hF.1.1.2.1 hL8
      refine k_call [.agg (ints .u64 r10).toArray] rfl (by kernel_rfl) (args1 (hF.2.1.1.2 hL8)) (field_Element_Power58_ok k r10 lr100 _ (hp.toR (fun _ h => by cases h)) qr11) ?_
      rintro _ w' ⟨_, rfl, rfl, lr110, hpc⟩
      refine ⟨_, rfl, .inr (.of_below hpc.chg.to_below), ?_⟩; have hp := hp.below hpc.chg.to_below; clear hpc
      exact k_done ⟨g13, c_g13_0, ⟨⟨⟨hF.1.1.1, ⟨hF.1.1.2.1, (fun _ => lr110)⟩⟩, hF.1.2⟩, ⟨⟨hF.2.1.1, ⟨(fun _ => rfl), hF.2.1.2.2⟩⟩, hF.2.2⟩⟩, hp⟩
    refine allU_cons ?_ ?_
    · rintro L e w hLi hb hcl ⟨g13, c_g13_0, hF, hp⟩
      have hL2 := hb 2 (by kernel_rfl)
      have hL9 := hb 9 (by kernel_rfl)
      have lr70 := hF.1.1.1.1.1 hL2
      have lr110 := hF.1.1.2.2 hL9
      refine k_call [.agg (ints .u64 r7).toArray, .agg (ints .u64 r11).toArray] rfl (by kernel_rfl) (args2 (hF.1.2.2.1 hL2) (hF.2.1.2.1 hL9)) (field_Element_Times_ok r7 r11 lr70 lr110 _ (hp.toR (fun _ h => by cases h)) qr12) ?_
      rintro _ w' ⟨_, rfl, rfl, lr120, hpc⟩
      refine ⟨_, rfl, .inr (.of_below hpc.chg.to_below), ?_⟩; have hp := hp.below hpc.chg.to_below; clear hpc
      exact k_done ⟨g13, c_g13_0, ⟨⟨hF.1.1, ⟨⟨(fun _ => lr120), hF.1.2.1.2⟩, hF.1.2.2⟩⟩, ⟨⟨hF.2.1.1, ⟨hF.2.1.2.1, (fun _ => rfl)⟩⟩, hF.2.2⟩⟩, hp⟩
    refine allU_cons ?_ ?_
    · rintro L e w hLi hb hcl ⟨g13, c_g13_0, hF, hp⟩
      have qc_g13_0 := hF.2.2.1.2 hLi
      rw [qc_g13_0] at hp
      refine k_allocAt 4 (ints .u64 (List.replicate 5 (0 : Int))) rfl (by kernel_rfl) hp ?_
      intro g13 w hbg13 hp
      exact k_done ⟨g13, (List.replicate 5 (0 : Int)), ⟨hF.1, ⟨hF.2.1, ⟨⟨(fun _ => rfl), (fun h => nomatch (show true = false from h))⟩, ⟨(fun _ _ => rfl), (fun h => absurd (hLi.symm.trans (hcl 12 11 (by kernel_rfl) h)) (by decide))⟩⟩⟩⟩, hp⟩
    refine allU_cons ?_ allU_nil
    · rintro L e w hLi hb hcl ⟨g13, c_g13_0, hF, hp⟩
      have hL10 := hb 10 (by kernel_rfl)
      have hL11 := hb 11 (by kernel_rfl)
      have lr120 := hF.1.2.1.1 hL10
      have qc_g13_0 := hF.2.2.2.1 hLi hL11
      rw [qc_g13_0] at hp
      refine k_storeA (v := .agg (ints .u64 r12).toArray) 4 0 (r := ⟨g13, 0, ints .u64 (List.replicate 5 (0 : Int))⟩) (ints .u64 r12) (ints .u64 r12) rfl (n := 5) (by kernel_rfl) (hF.2.2.1.1 hL11) (hF.2.1.2.2 hL10) rfl ((ints_length _ _).trans lr120) (ints_one _ _) hp rfl rfl rfl (Nat.le_of_eq ((Nat.zero_add _).trans ((ints_length _ _).trans List.length_replicate).symm)) (setMany_all _ _ (((ints_length _ _).trans lr120).trans ((ints_length _ _).trans List.length_replicate).symm)) (by decide) ?_; intro w hp
      exact k_done ⟨g13, r12, ⟨hF.1, ⟨hF.2.1, ⟨⟨hF.2.2.1.1, (fun h => absurd (hL11.symm.trans h) (by decide))⟩, ⟨(fun h _ => nomatch (show true = false from h)), (fun _ => rfl)⟩⟩⟩⟩, hp⟩
  rintro e132 w ⟨g13, hF, hp⟩
  have lr120 := hF.1.1.1
  have s2_e132 := hF.1.1.2
  have s3_e132 := hF.1.2
  have s4_e132 := hF.2.1
  have s7_e132 := hF.2.2
  clear hF
  refine wseqP (p0 := [1, 1, 1, 0]) (p1 := [1, 1, 1, 1]) rfl rfl rfl ?_
  obtain ⟨r14, qr14, h⟩ := bd_e h
  obtain ⟨r15, qr15, h⟩ := bd_e h
  refine wcut (fun e133 w2 => ∃ g16 : Nat, (((r15.length = 5 ∧ e133 2 = .pointer (some ⟨g1, 0, none⟩)) ∧ e133 3 = .pointer (some ⟨g2, 0, none⟩)) ∧ ((e133 4 = .pointer (some ⟨g3, 0, none⟩) ∧ e133 7 = .pointer (some ⟨g13, 0, none⟩)) ∧ e133 8 = .pointer (some ⟨g16, 0, none⟩))) ∧ Hp w0 [] w2 [⟨g1, 0, ints .u64 a0⟩, ⟨g2, 0, ints .u64 a1⟩, ⟨g3, 0, ints .u64 (List.replicate 5 (0 : Int))⟩, ⟨g6, 0, ints .u64 r5⟩, ⟨g13, 0, ints .u64 r12⟩, ⟨g16, 0, ints .u64 r15⟩] []) ?_ ?_
  rotate_left
  · refine wregionM field_Ratio.o4 (.tk 0 (.tk 1 (.rest 3 4))) [5] [(0, 0, 0), (0, 0, 0), (2, 63, 63), (5, 63, 63), (0, 63, 63), (31, 63, 63)] rfl rfl (by kernel_rfl) (by kernel_rfl) (Nat.le_of_ble_eq_true (by kernel_rfl)) (by kernel_rfl) (by kernel_rfl) (by kernel_rfl) ?_
    have hp := hp.drew
    refine k_loadA (n := 5) (xs := ints .u64 a1) 0 rfl (by kernel_rfl) (by kernel_rfl) s3_e132 (hp.get (j := 1) rfl) rfl rfl ((ints_length _ _).trans la1) (fun m v hm => by rw [Nat.zero_add]; exact hm) ?_
    refine k_loadA (n := 5) (xs := ints .u64 r12) 0 rfl (by kernel_rfl) (by kernel_rfl) s7_e132 (hp.get (j := 4) rfl) rfl rfl ((ints_length _ _).trans lr120) (fun m v hm => by rw [Nat.zero_add]; exact hm) ?_
    refine k_rest [2, 3, 4, 5] (fun L e w => ∃ g16 : Nat, ∃ c_g16_0 : List Int, (((((L 2 = true → r14.length = 5) ∧ (L 3 = true → r15.length = 5)) ∧ (((e 2 = .pointer (some ⟨g1, 0, none⟩) ∧ e 3 = .pointer (some ⟨g2, 0, none⟩)) ∧ e 4 = .pointer (some ⟨g3, 0, none⟩)) ∧ ((e 7 = .pointer (some ⟨g13, 0, none⟩) ∧ e 24 = .agg (ints .u64 a1).toArray) ∧ e 25 = .agg (ints .u64 r12).toArray))) ∧ ((L 2 = true → e 26 = .agg (ints .u64 r14).toArray) ∧ (L 3 = true → e 27 = .agg (ints .u64 r15).toArray))) ∧ (((L 4 = true → e 8 = .pointer (some ⟨g16, 0, none⟩)) ∧ (L 4 = false → c_g16_0 = ([] : List Int))) ∧ ((L 5 = false → L 4 = true → c_g16_0 = (List.replicate 5 (0 : Int))) ∧ (L 5 = true → c_g16_0 = r15)))) ∧ Hp w0 [] w [⟨g1, 0, ints .u64 a0⟩, ⟨g2, 0, ints .u64 a1⟩, ⟨g3, 0, ints .u64 (List.replicate 5 (0 : Int))⟩, ⟨g6, 0, ints .u64 r5⟩, ⟨g13, 0, ints .u64 r12⟩, ⟨g16, 0, ints .u64 c_g16_0⟩] []) (by kernel_rfl) (by kernel_rfl) ?_ ?_ ?_
    have hp := hp.free1 0 0
    · exact ⟨0, ([] : List Int), ⟨⟨⟨⟨(fun h => absurd h (by decide)), (fun h => absurd h (by decide))⟩, ⟨⟨⟨s2_e132, s3_e132⟩, s4_e132⟩, ⟨⟨s7_e132, rfl⟩, rfl⟩⟩⟩, ⟨(fun h => absurd h (by decide)), (fun h => absurd h (by decide))⟩⟩, ⟨⟨(fun h => absurd h (by decide)), (fun _ => rfl)⟩, ⟨(fun _ h => absurd h (by decide)), (fun h => absurd h (by decide))⟩⟩⟩, hp⟩
    · rintro L e w hall ⟨g16, c_g16_0, hF, hp⟩
      have qc_g16_0 := hF.2.2.2 (hall 5 rfl)
      rw [qc_g16_0] at hp
      exact onlyN_i ⟨g16, ⟨⟨⟨(hF.1.1.1.2 (hall 3 rfl)), hF.1.1.2.1.1.1⟩, hF.1.1.2.1.1.2⟩, ⟨⟨hF.1.1.2.1.2, hF.1.1.2.2.1.1⟩, (hF.2.1.1 (hall 4 rfl))⟩⟩, hp⟩
    refine allU_cons ?_ ?_
    · rintro L e w hLi hb hcl ⟨g16, c_g16_0, hF, hp⟩
      refine k_call [.agg (ints .u64 r12).toArray, .int .i64 1] rfl (by kernel_rfl) (args2 hF.1.1.2.2.2 rfl) (field_Element_squared_ok k r12 1 lr120 _ (hp.toR (fun _ h => by cases h)) qr14) ?_
      rintro _ w' ⟨_, rfl, rfl, lr140, hpc⟩
      refine ⟨_, rfl, .inr (.of_below hpc.chg.to_below), ?_⟩; have hp := hp.below hpc.chg.to_below; clear hpc
      exact k_done ⟨g16, c_g16_0, ⟨⟨⟨⟨(fun _ => lr140), hF.1.1.1.2⟩, hF.1.1.2⟩, ⟨(fun _ => rfl), hF.1.2.2⟩⟩, hF.2⟩, hp⟩
    refine allU_cons ?_ ?_
    · rintro L e w hLi hb hcl ⟨g16, c_g16_0, hF, hp⟩
      have hL2 := hb 2 (by kernel_rfl)
      have lr140 := hF.1.1.1.1 hL2
      refine k_call [.agg (ints .u64 a1).toArray, .agg (ints .u64 r14).toArray] rfl (by kernel_rfl) (args2 hF.1.1.2.2.1.2 (hF.1.2.1 hL2)) (field_Element_Times_ok a1 r14 la1 lr140 _ (hp.toR (fun _ h => by cases h)) qr15) ?_
      rintro _ w' ⟨_, rfl, rfl, lr150, hpc⟩
      refine ⟨_, rfl, .inr (.of_below hpc.chg.to_below), ?_⟩; have hp := hp.below hpc.chg.to_below; clear hpc
      exact k_done ⟨g16, c_g16_0, ⟨⟨⟨⟨hF.1.1.1.1, (fun _ => lr150)⟩, hF.1.1.2⟩, ⟨hF.1.2.1, (fun _ => rfl)⟩⟩, hF.2⟩, hp⟩
    refine allU_cons ?_ ?_
    · rintro L e w hLi hb hcl ⟨g16, c_g16_0, hF, hp⟩
      have qc_g16_0 := hF.2.1.2 hLi
      rw [qc_g16_0] at hp
      refine k_allocAt 5 (ints .u64 (List.replicate 5 (0 : Int))) rfl (by kernel_rfl) hp ?_
      intro g16 w hbg16 hp
      exact k_done ⟨g16, (List.replicate 5 (0 : Int)), ⟨hF.1, ⟨⟨(fun _ => rfl), (fun h => nomatch (show true = false from h))⟩, ⟨(fun _ _ => rfl), (fun h => absurd (hLi.symm.trans (hcl 5 4 (by kernel_rfl) h)) (by decide))⟩⟩⟩, hp⟩
    refine allU_cons ?_ allU_nil
    · rintro L e w hLi hb hcl ⟨g16, c_g16_0, hF, hp⟩
      have hL3 := hb 3 (by kernel_rfl)
      have hL4 := hb 4 (by kernel_rfl)
      have lr150 := hF.1.1.1.2 hL3
      have qc_g16_0 := hF.2.2.1 hLi hL4
      rw [qc_g16_0] at hp
      refine k_storeA (v := .agg (ints .u64 r15).toArray) 5 0 (r := ⟨g16, 0, ints .u64 (List.replicate 5 (0 : Int))⟩) (ints .u64 r15) (ints .u64 r15) rfl (n := 5) (by kernel_rfl) (hF.2.1.1 hL4) (hF.1.2.2 hL3) rfl ((ints_length _ _).trans lr150) (ints_one _ _) hp rfl rfl rfl (Nat.le_of_eq ((Nat.zero_add _).trans ((ints_length _ _).trans List.length_replicate).symm)) (setMany_all _ _ (((ints_length _ _).trans lr150).trans ((ints_length _ _).trans List.length_replicate).symm)) (by decide) ?_; intro w hp
      exact k_done ⟨g16, r15, ⟨hF.1, ⟨⟨hF.2.1.1, (fun h => absurd (hL4.symm.trans h) (by decide))⟩, ⟨(fun h _ => nomatch (show true = false from h)), (fun _ => rfl)⟩⟩⟩, hp⟩
  rintro e133 w ⟨g16, hF, hp⟩
  have lr150 := hF.1.1.1
  have s2_e133 := hF.1.1.2
  have s3_e133 := hF.1.2
  have s4_e133 := hF.2.1.1
  have s7_e133 := hF.2.1.2
  have s8_e133 := hF.2.2
  clear hF
  refine wseqP (p0 := [1, 1, 1, 1, 0]) (p1 := [1, 1, 1, 1, 1]) rfl rfl rfl ?_
  refine wseqP (p0 := [1, 1, 1, 1, 0, 0]) (p1 := [1, 1, 1, 1, 0, 1]) rfl rfl rfl ?_
  refine wregionT field_Ratio.o5 (.tk 0 (.tk 1 (.ef 2 (.tp 3 (.done))))) [] rfl rfl (by kernel_rfl) (by kernel_rfl) ?_
  refine k_loadA (n := 5) (xs := ints .u64 r15) 0 rfl (by kernel_rfl) (by kernel_rfl) s8_e133 (hp.get (j := 5) rfl) rfl rfl ((ints_length _ _).trans lr150) (fun m v hm => by rw [Nat.zero_add]; exact hm) ?_
  refine k_loadA (n := 5) (xs := ints .u64 a0) 0 rfl (by kernel_rfl) (by kernel_rfl) s2_e133 (hp.get (j := 0) rfl) rfl rfl ((ints_length _ _).trans la0) (fun m v hm => by rw [Nat.zero_add]; exact hm) ?_
  obtain ⟨r17, qr17, h⟩ := bd_e h
  refine k_call [.agg (ints .u64 r15).toArray, .agg (ints .u64 a0).toArray] rfl (by kernel_rfl) (args2 rfl rfl) (field_Element_Is_ok k r15 a0 lr150 la0 _ (hp.toR (fun _ h => by cases h)) qr17) ?_
  rintro _ w' ⟨_, rfl, rfl, hpc⟩
  refine ⟨_, rfl, .inr (.of_below hpc.chg.to_below), ?_⟩; have hp := hp.below hpc.chg.to_below; clear hpc
  refine k_not (b := r17) rfl rfl ?_
  refine k_end ?_; intro e134 qe134
  have s2_e134 : e134 2 = .pointer (some ⟨g1, 0, none⟩) := (congrFun qe134 2).trans s2_e133
  have s3_e134 : e134 3 = .pointer (some ⟨g2, 0, none⟩) := (congrFun qe134 3).trans s3_e133
  have s4_e134 : e134 4 = .pointer (some ⟨g3, 0, none⟩) := (congrFun qe134 4).trans s4_e133
  have s7_e134 : e134 7 = .pointer (some ⟨g13, 0, none⟩) := (congrFun qe134 7).trans s7_e133
  have s8_e134 : e134 8 = .pointer (some ⟨g16, 0, none⟩) := (congrFun qe134 8).trans s8_e133
  have s31_e134 : e134 31 = .bool (!r17) := congrFun qe134 31
  clear qe134
  obtain ⟨r22, qr22, h⟩ := bd_e h
  refine field_Ratio.p1_ok k g1 g13 g16 g2 g3 g6 r17 a0 a1 r5 r12 r15 la0 la1 lr50 lr120 lr150 ?hq0 e134 _ s2_e134 s3_e134 s4_e134 s7_e134 s8_e134 s31_e134 hp qr22
  case hq0 =>
    intro e137 w m23 m24 lm23 lm24 s2_e137 s4_e137 s7_e137 s8_e137 hp qq
    rw [qq] at h; clear qq
    refine wseqP (p0 := [1, 1, 1, 1, 1, 0]) (p1 := [1, 1, 1, 1, 1, 1]) rfl rfl rfl ?_
    refine wseqP (p0 := [1, 1, 1, 1, 1, 0, 0]) (p1 := [1, 1, 1, 1, 1, 0, 1]) rfl rfl rfl ?_
    refine wregionT field_Ratio.o8 (.tk 0 (.ef 1 (.done))) [] rfl rfl (by kernel_rfl) (by kernel_rfl) ?_
    refine k_loadA (n := 5) (xs := ints .u64 m23) 0 rfl (by kernel_rfl) (by kernel_rfl) s7_e137 (hp.get (j := 4) rfl) rfl rfl ((ints_length _ _).trans lm23) (fun m v hm => by rw [Nat.zero_add]; exact hm) ?_
    obtain ⟨r25, qr25, h⟩ := bd_e h
    refine k_call [.agg (ints .u64 m23).toArray] rfl (by kernel_rfl) (args1 rfl) (field_Element_Odd_ok k m23 lm23 _ (hp.toR (fun _ h => by cases h)) qr25) ?_
    rintro _ w' ⟨_, rfl, rfl, hpc⟩
    refine ⟨_, rfl, .inr (.of_below hpc.chg.to_below), ?_⟩; have hp := hp.below hpc.chg.to_below; clear hpc
    refine k_end ?_; intro e138 qe138
    have s2_e138 : e138 2 = .pointer (some ⟨g1, 0, none⟩) := (congrFun qe138 2).trans s2_e137
    have s4_e138 : e138 4 = .pointer (some ⟨g3, 0, none⟩) := (congrFun qe138 4).trans s4_e137
    have s7_e138 : e138 7 = .pointer (some ⟨g13, 0, none⟩) := (congrFun qe138 7).trans s7_e137
    have s8_e138 : e138 8 = .pointer (some ⟨g16, 0, none⟩) := (congrFun qe138 8).trans s8_e137
    have s40_e138 : e138 40 = .bool r25 := congrFun qe138 40
    clear qe138
    obtain ⟨r27, qr27, h⟩ := bd_e h
    refine field_Ratio.p2_ok g1 g13 g16 g2 g3 g6 r25 a0 a1 r5 m23 m24 la0 la1 lr50 lm23 lm24 ?hq0 e138 _ s2_e138 s4_e138 s7_e138 s8_e138 s40_e138 hp qr27
    case hq0 =>
      intro e140 w m28 lm28 s2_e140 s4_e140 s7_e140 s8_e140 hp qq
      rw [qq] at h; clear qq
      refine wseqP (p0 := [1, 1, 1, 1, 1, 1, 0]) (p1 := [1, 1, 1, 1, 1, 1, 1]) rfl rfl rfl ?_
      obtain ⟨r29, qr29, h⟩ := bd_e h
      refine wcut (fun e141 w2 => (e141 4 = .pointer (some ⟨g3, 0, none⟩) ∧ e141 5 = .bool r29) ∧ Hp w0 [] w2 [⟨g1, 0, ints .u64 a0⟩, ⟨g2, 0, ints .u64 a1⟩, ⟨g3, 0, ints .u64 m28⟩, ⟨g6, 0, ints .u64 r5⟩, ⟨g13, 0, ints .u64 m28⟩, ⟨g16, 0, ints .u64 m24⟩] []) ?_ ?_
      rotate_left
      · refine wregionM field_Ratio.o10 (.tk 0 (.rest 1 5)) [4] [(0, 0, 0), (0, 63, 63), (0, 63, 63), (6, 63, 63), (9, 63, 63), (31, 63, 63)] rfl rfl (by kernel_rfl) (by kernel_rfl) (Nat.le_of_ble_eq_true (by kernel_rfl)) (by kernel_rfl) (by kernel_rfl) (by kernel_rfl) ?_
        have hp := hp.drew
        refine k_loadA (n := 5) (xs := ints .u64 m28) 0 rfl (by kernel_rfl) (by kernel_rfl) s7_e140 (hp.get (j := 4) rfl) rfl rfl ((ints_length _ _).trans lm28) (fun m v hm => by rw [Nat.zero_add]; exact hm) ?_
        refine k_rest [1, 2, 3, 4, 5] (fun L e w => ∃ c_g3_0 : List Int, (((((e 2 = .pointer (some ⟨g1, 0, none⟩) ∧ e 4 = .pointer (some ⟨g3, 0, none⟩)) ∧ (e 8 = .pointer (some ⟨g16, 0, none⟩) ∧ e 44 = .agg (ints .u64 m28).toArray)) ∧ (L 1 = true → e 45 = .agg (ints .u64 m24).toArray)) ∧ ((L 2 = true → e 46 = .agg (ints .u64 a0).toArray) ∧ (L 3 = true → e 47 = .bool r29))) ∧ (((L 5 = true → e 5 = .bool r29) ∧ (L 4 = false → c_g3_0 = (List.replicate 5 (0 : Int)))) ∧ (L 4 = true → c_g3_0 = m28))) ∧ Hp w0 [] w [⟨g1, 0, ints .u64 a0⟩, ⟨g2, 0, ints .u64 a1⟩, ⟨g3, 0, ints .u64 c_g3_0⟩, ⟨g6, 0, ints .u64 r5⟩, ⟨g13, 0, ints .u64 m28⟩, ⟨g16, 0, ints .u64 m24⟩] []) (by kernel_rfl) (by kernel_rfl) ?_ ?_ ?_
        · exact ⟨(List.replicate 5 (0 : Int)), ⟨⟨⟨⟨⟨s2_e140, s4_e140⟩, ⟨s8_e140, rfl⟩⟩, (fun h => absurd h (by decide))⟩, ⟨(fun h => absurd h (by decide)), (fun h => absurd h (by decide))⟩⟩, ⟨⟨(fun h => absurd h (by decide)), (fun _ => rfl)⟩, (fun h => absurd h (by decide))⟩⟩, hp⟩
        · rintro L e w hall ⟨c_g3_0, hF, hp⟩
          have qc_g3_0 := hF.2.2 (hall 4 rfl)
          rw [qc_g3_0] at hp
          exact onlyN_i ⟨⟨hF.1.1.1.1.2, (hF.2.1.1 (hall 5 rfl))⟩, hp⟩
        refine allU_cons ?_ ?_
        · rintro L e w hLi hb hcl ⟨c_g3_0, hF, hp⟩
          refine tk_ef ?_
          refine k_loadA (n := 5) (xs := ints .u64 m24) 0 rfl (by kernel_rfl) (by kernel_rfl) hF.1.1.1.2.1 (hp.get (j := 5) rfl) rfl rfl ((ints_length _ _).trans lm24) (fun m v hm => by rw [Nat.zero_add]; exact hm) ?_
          exact k_done ⟨c_g3_0, ⟨⟨⟨hF.1.1.1, (fun _ => rfl)⟩, hF.1.2⟩, hF.2⟩, hp⟩
        refine allU_cons ?_ ?_
        · rintro L e w hLi hb hcl ⟨c_g3_0, hF, hp⟩
          refine tk_ef ?_
          refine k_loadA (n := 5) (xs := ints .u64 a0) 0 rfl (by kernel_rfl) (by kernel_rfl) hF.1.1.1.1.1 (hp.get (j := 0) rfl) rfl rfl ((ints_length _ _).trans la0) (fun m v hm => by rw [Nat.zero_add]; exact hm) ?_
          exact k_done ⟨c_g3_0, ⟨⟨hF.1.1, ⟨(fun _ => rfl), hF.1.2.2⟩⟩, hF.2⟩, hp⟩
        refine allU_cons ?_ ?_
        · rintro L e w hLi hb hcl ⟨c_g3_0, hF, hp⟩
          have hL1 := hb 1 (by kernel_rfl)
          have hL2 := hb 2 (by kernel_rfl)
          refine k_call [.agg (ints .u64 m24).toArray, .agg (ints .u64 a0).toArray] rfl (by kernel_rfl) (args2 (hF.1.1.2 hL1) (hF.1.2.1 hL2)) (field_Element_Is_ok k m24 a0 lm24 la0 _ (hp.toR (fun _ h => by cases h)) qr29) ?_
          rintro _ w' ⟨_, rfl, rfl, hpc⟩
          refine ⟨_, rfl, .inr (.of_below hpc.chg.to_below), ?_⟩; have hp := hp.below hpc.chg.to_below; clear hpc
          exact k_done ⟨c_g3_0, ⟨⟨hF.1.1, ⟨hF.1.2.1, (fun _ => rfl)⟩⟩, hF.2⟩, hp⟩
        refine allU_cons ?_ ?_
        · rintro L e w hLi hb hcl ⟨c_g3_0, hF, hp⟩
          have qc_g3_0 := hF.2.1.2 hLi
          rw [qc_g3_0] at hp
          refine k_storeA (v := .agg (ints .u64 m28).toArray) 2 0 (r := ⟨g3, 0, ints .u64 (List.replicate 5 (0 : Int))⟩) (ints .u64 m28) (ints .u64 m28) rfl (n := 5) (by kernel_rfl) hF.1.1.1.1.2 hF.1.1.1.2.2 rfl ((ints_length _ _).trans lm28) (ints_one _ _) hp rfl rfl rfl (Nat.le_of_eq ((Nat.zero_add _).trans ((ints_length _ _).trans List.length_replicate).symm)) (setMany_all _ _ (((ints_length _ _).trans lm28).trans ((ints_length _ _).trans List.length_replicate).symm)) (by decide) ?_; intro w hp
          exact k_done ⟨m28, ⟨hF.1, ⟨⟨hF.2.1.1, (fun h => nomatch (show true = false from h))⟩, (fun _ => rfl)⟩⟩, hp⟩
        refine allU_cons ?_ allU_nil
        · rintro L e w hLi hb hcl ⟨c_g3_0, hF, hp⟩
          have hL3 := hb 3 (by kernel_rfl)
          refine tp_ef ?_
          refine k_assign (v := .bool r29) rfl (hF.1.2.2 hL3) ?_
          exact k_done ⟨c_g3_0, ⟨hF.1, ⟨⟨(fun _ => rfl), hF.2.1.2⟩, hF.2.2⟩⟩, hp⟩
      rintro e141 w ⟨hF, hp⟩
      have s4_e141 := hF.1
      have s5_e141 := hF.2
      clear hF
      refine wret rfl ?_
      have hr : r = (m28, r29) := (Option.some.inj h).symm
      show RetP _ _ _ _ _
      rw [hr]
      exact ret_i [.agg (ints .u64 m28).toArray, .bool r29] (res_cell s4_e141 (loadVar_agg (by kernel_rfl) (by kernel_rfl) ((ints_length _ _).trans lm28) (hp.get (j := 2) rfl) rfl rfl rfl) (res_tmp s5_e141 res_nil)) ⟨rfl, lm28, hp.none⟩
/-! 30 postilion/point.Of -/
noncomputable def point_Of.o1 : Array Oper := opsC (at_ (fbody Try.f30) [0])
noncomputable def point_Of.o2 : Array Oper := opsC (at_ (fbody Try.f30) [1, 0])
noncomputable def point_Of.o3 : Array Oper := opsC (at_ (fbody Try.f30) [1, 1, 0])
noncomputable def point_Of.o4 : Array Oper := opsC (at_ (fbody Try.f30) [1, 1, 1, 0, 0])
noncomputable def point_Of.o5 : Array Oper := opsC (at_ (fbody Try.f30) [1, 1, 1, 0, 1, 0, 0])
noncomputable def point_Of.o6 : Array Oper := opsC (at_ (fbody Try.f30) [1, 1, 1, 1, 0])
noncomputable def point_Of.o7 : Array Oper := opsC (at_ (fbody Try.f30) [1, 1, 1, 1, 1, 0])
noncomputable def point_Of.o8 : Array Oper := opsC (at_ (fbody Try.f30) [1, 1, 1, 1, 1, 1, 0])
noncomputable def point_Of.o9 : Array Oper := opsC (at_ (fbody Try.f30) [1, 1, 1, 1, 1, 1, 1, 0])
noncomputable def point_Of.o10 : Array Oper := opsC (at_ (fbody Try.f30) [1, 1, 1, 1, 1, 1, 1, 1, 0, 0])
noncomputable def point_Of.o11 : Array Oper := opsC (at_ (fbody Try.f30) [1, 1, 1, 1, 1, 1, 1, 1, 0, 1, 0, 0])
noncomputable def point_Of.o12 : Array Oper := opsC (at_ (fbody Try.f30) [1, 1, 1, 1, 1, 1, 1, 1, 1, 0, 0])
noncomputable def point_Of.o13 : Array Oper := opsC (at_ (fbody Try.f30) [1, 1, 1, 1, 1, 1, 1, 1, 1, 0, 1, 0])
noncomputable def point_Of.o14 : Array Oper := opsC (at_ (fbody Try.f30) [1, 1, 1, 1, 1, 1, 1, 1, 1, 1, 0])
theorem point_Of.p1_ok {w0 : World} {Ws : List Wr} {Q : Exit → Env → World → Prop} (k : Nat) (g1 g15 g16 g2 g5 g7 : Nat) (a0 : List Int) (r14 : List Int × Bool) (r4 : List Int) (r6 : List Int) (la0 : a0.length = 32) (lr40 : r4.length = 5) (lr60 : r6.length = 5) (lr140 : r14.1.length = 5) {r : Bool} (hQ0 : ∀ (e' : Env) (w' : World) (z0 : Bool), e' 2 = .pointer (some ⟨g2, 0, none⟩) → e' 4 = .bool ((Int.fdiv (a0.getD 31 0) (2 ^ 7)) == 1) → e' 5 = .pointer (some ⟨g5, 0, none⟩) → e' 7 = .pointer (some ⟨g15, 0, none⟩) → e' 9 = .pointer (some ⟨g16, 0, none⟩) → e' 48 = .bool z0 → Hp w0 Ws w' [⟨g1, 0, ints .u8 (a0.set 31 (bits .and .u8 (a0.getD 31 0) 127))⟩, ⟨g2, 0, ints .u64 (List.replicate 20 (0 : Int))⟩, ⟨g5, 0, ints .u64 r4⟩, ⟨g7, 0, ints .u64 r6⟩, ⟨g15, 0, ints .u64 r14.1⟩, ⟨g16, 0, ints .u64 (List.replicate 5 (0 : Int))⟩] [] → r = (z0) → Q .normal e' w') (e : Env) (w : World) (s2_e : e 2 = .pointer (some ⟨g2, 0, none⟩)) (s4_e : e 4 = .bool ((Int.fdiv (a0.getD 31 0) (2 ^ 7)) == 1)) (s5_e : e 5 = .pointer (some ⟨g5, 0, none⟩)) (s7_e : e 7 = .pointer (some ⟨g15, 0, none⟩)) (s8_e : e 8 = .bool r14.2) (s9_e : e 9 = .pointer (some ⟨g16, 0, none⟩)) (hp : Hp w0 Ws w [⟨g1, 0, ints .u8 (a0.set 31 (bits .and .u8 (a0.getD 31 0) 127))⟩, ⟨g2, 0, ints .u64 (List.replicate 20 (0 : Int))⟩, ⟨g5, 0, ints .u64 r4⟩, ⟨g7, 0, ints .u64 r6⟩, ⟨g15, 0, ints .u64 r14.1⟩, ⟨g16, 0, ints .u64 (List.replicate 5 (0 : Int))⟩] []) (h : point_Of.p1 k a0 r14 = some r) : Wp Try.prog Try.f30.ntmps (at_ (fbody Try.f30) [1, 1, 1, 1, 1, 1, 1, 1, 0, 0]) Q e w := by
  unfold point_Of.p1 at h
  refine wregionT point_Of.o10 (.tp 0 (.tp 1 (.tp 2 (.tp 3 (.tp 4 (.tk 5 (.tk 6 (.ef 7 (.tp 8 (.tp 9 (.done))))))))))) [] rfl rfl (by kernel_rfl) (by kernel_rfl) ?_
  refine k_move (v := .bool r14.2) rfl s8_e ?_
  refine k_not (b := r14.2) rfl rfl ?_
  rcases Bool.eq_false_or_eq_true (!r14.2) with hb | hb
  · replace h := br_t hb h
    refine k_move (v := .bool true) rfl (Eq.trans (b := .bool (!r14.2)) rfl (congrArg Value.bool hb)) ?_
    refine k_skip rfl ?_
    refine k_skip rfl ?_
    refine k_skip_tk rfl ?_
    refine k_skip_tk rfl ?_
    refine k_skip_ef rfl ?_
    refine k_skip rfl ?_
    refine k_pick (b := true) (v := .bool true) rfl rfl rfl rfl rfl ?_
    refine k_end ?_; intro e151 qe151
    have s2_e151 : e151 2 = .pointer (some ⟨g2, 0, none⟩) := (congrFun qe151 2).trans s2_e
    have s4_e151 : e151 4 = .bool ((Int.fdiv (a0.getD 31 0) (2 ^ 7)) == 1) := (congrFun qe151 4).trans s4_e
    have s5_e151 : e151 5 = .pointer (some ⟨g5, 0, none⟩) := (congrFun qe151 5).trans s5_e
    have s7_e151 : e151 7 = .pointer (some ⟨g15, 0, none⟩) := (congrFun qe151 7).trans s7_e
    have s9_e151 : e151 9 = .pointer (some ⟨g16, 0, none⟩) := (congrFun qe151 9).trans s9_e
    have s48_e151 : e151 48 = .bool true := congrFun qe151 48
    clear qe151
    exact hQ0 _ _ true  s2_e151 s4_e151 s5_e151 s7_e151 s9_e151 s48_e151 (hp.drop (L' := [⟨g1, 0, ints .u8 (a0.set 31 (bits .and .u8 (a0.getD 31 0) 127))⟩, ⟨g2, 0, ints .u64 (List.replicate 20 (0 : Int))⟩, ⟨g5, 0, ints .u64 r4⟩, ⟨g7, 0, ints .u64 r6⟩, ⟨g15, 0, ints .u64 r14.1⟩, ⟨g16, 0, ints .u64 (List.replicate 5 (0 : Int))⟩]) (List.Sublist.refl _)) (Option.some.inj h).symm
  · replace h := br_f hb h
    refine k_move (v := .bool false) rfl (Eq.trans (b := .bool (!r14.2)) rfl (congrArg Value.bool hb)) ?_
    refine k_move (v := .bool ((Int.fdiv (a0.getD 31 0) (2 ^ 7)) == 1)) rfl s4_e ?_
    rcases Bool.eq_false_or_eq_true ((Int.fdiv (a0.getD 31 0) (2 ^ 7)) == 1) with hb | hb
    · replace h := br_t hb h
      refine k_move (v := .bool true) rfl (Eq.trans (b := .bool ((Int.fdiv (a0.getD 31 0) (2 ^ 7)) == 1)) rfl (congrArg Value.bool hb)) ?_
      refine k_loadA (n := 5) (xs := ints .u64 r14.1) 0 rfl (by kernel_rfl) (by kernel_rfl) s7_e (hp.get (j := 4) rfl) rfl rfl ((ints_length _ _).trans lr140) (fun m v hm => by rw [Nat.zero_add]; exact hm) ?_
      refine k_loadA (n := 5) (xs := ints .u64 (List.replicate 5 (0 : Int))) 0 rfl (by kernel_rfl) (by kernel_rfl) s9_e (hp.get (j := 5) rfl) rfl rfl ((ints_length _ _).trans List.length_replicate) (fun m v hm => by rw [Nat.zero_add]; exact hm) ?_
      obtain ⟨r17, qr17, h⟩ := bd_e h
      refine k_call [.agg (ints .u64 r14.1).toArray, .agg (ints .u64 (List.replicate 5 (0 : Int))).toArray] rfl (by kernel_rfl) (args2 rfl rfl) (field_Element_Is_ok k r14.1 (List.replicate 5 (0 : Int)) lr140 List.length_replicate _ (hp.toR (fun _ h => by cases h)) qr17) ?_
      rintro _ w' ⟨_, rfl, rfl, hpc⟩
      refine ⟨_, rfl, .inr (.of_below hpc.chg.to_below), ?_⟩; have hp := hp.below hpc.chg.to_below; clear hpc
      refine k_pick (b := true) (v := .bool r17) rfl rfl rfl rfl rfl ?_
      refine k_pick (b := false) (v := .bool r17) rfl rfl rfl rfl rfl ?_
      refine k_end ?_; intro e152 qe152
      have s2_e152 : e152 2 = .pointer (some ⟨g2, 0, none⟩) := (congrFun qe152 2).trans s2_e
      have s4_e152 : e152 4 = .bool ((Int.fdiv (a0.getD 31 0) (2 ^ 7)) == 1) := (congrFun qe152 4).trans s4_e
      have s5_e152 : e152 5 = .pointer (some ⟨g5, 0, none⟩) := (congrFun qe152 5).trans s5_e
      have s7_e152 : e152 7 = .pointer (some ⟨g15, 0, none⟩) := (congrFun qe152 7).trans s7_e
      have s9_e152 : e152 9 = .pointer (some ⟨g16, 0, none⟩) := (congrFun qe152 9).trans s9_e
      have s48_e152 : e152 48 = .bool r17 := congrFun qe152 48
      clear qe152
      exact hQ0 _ _ r17  s2_e152 s4_e152 s5_e152 s7_e152 s9_e152 s48_e152 (hp.drop (L' := [⟨g1, 0, ints .u8 (a0.set 31 (bits .and .u8 (a0.getD 31 0) 127))⟩, ⟨g2, 0, ints .u64 (List.replicate 20 (0 : Int))⟩, ⟨g5, 0, ints .u64 r4⟩, ⟨g7, 0, ints .u64 r6⟩, ⟨g15, 0, ints .u64 r14.1⟩, ⟨g16, 0, ints .u64 (List.replicate 5 (0 : Int))⟩]) (List.Sublist.refl _)) (Option.some.inj h).symm
    · replace h := br_f hb h
      refine k_move (v := .bool false) rfl (Eq.trans (b := .bool ((Int.fdiv (a0.getD 31 0) (2 ^ 7)) == 1)) rfl (congrArg Value.bool hb)) ?_
      refine k_skip_tk rfl ?_
      refine k_skip_tk rfl ?_
      refine k_skip_ef rfl ?_
      refine k_pick (b := false) (v := .bool false) rfl rfl rfl rfl rfl ?_
      refine k_pick (b := false) (v := .bool false) rfl rfl rfl rfl rfl ?_
      refine k_end ?_; intro e153 qe153
      have s2_e153 : e153 2 = .pointer (some ⟨g2, 0, none⟩) := (congrFun qe153 2).trans s2_e
      have s4_e153 : e153 4 = .bool ((Int.fdiv (a0.getD 31 0) (2 ^ 7)) == 1) := (congrFun qe153 4).trans s4_e
      have s5_e153 : e153 5 = .pointer (some ⟨g5, 0, none⟩) := (congrFun qe153 5).trans s5_e
      have s7_e153 : e153 7 = .pointer (some ⟨g15, 0, none⟩) := (congrFun qe153 7).trans s7_e
      have s9_e153 : e153 9 = .pointer (some ⟨g16, 0, none⟩) := (congrFun qe153 9).trans s9_e
      have s48_e153 : e153 48 = .bool false := congrFun qe153 48
      clear qe153
      exact hQ0 _ _ false  s2_e153 s4_e153 s5_e153 s7_e153 s9_e153 s48_e153 (hp.drop (L' := [⟨g1, 0, ints .u8 (a0.set 31 (bits .and .u8 (a0.getD 31 0) 127))⟩, ⟨g2, 0, ints .u64 (List.replicate 20 (0 : Int))⟩, ⟨g5, 0, ints .u64 r4⟩, ⟨g7, 0, ints .u64 r6⟩, ⟨g15, 0, ints .u64 r14.1⟩, ⟨g16, 0, ints .u64 (List.replicate 5 (0 : Int))⟩]) (List.Sublist.refl _)) (Option.some.inj h).symm
theorem point_Of.p2_ok {w0 : World} {Ws : List Wr} {Q : Exit → Env → World → Prop} (g1 g15 g16 g2 g5 g7 : Nat) (a0 : List Int) (r4 : List Int) (r6 : List Int) (r14 : List Int × Bool) (la0 : a0.length = 32) (lr40 : r4.length = 5) (lr60 : r6.length = 5) (lr140 : r14.1.length = 5) {r : List Int} (hQ0 : ∀ (e' : Env) (w' : World) (z0 : List Int), z0.length = 5 → e' 2 = .pointer (some ⟨g2, 0, none⟩) → e' 5 = .pointer (some ⟨g5, 0, none⟩) → e' 7 = .pointer (some ⟨g15, 0, none⟩) → Hp w0 Ws w' [⟨g1, 0, ints .u8 (a0.set 31 (bits .and .u8 (a0.getD 31 0) 127))⟩, ⟨g2, 0, ints .u64 (List.replicate 20 (0 : Int))⟩, ⟨g5, 0, ints .u64 r4⟩, ⟨g7, 0, ints .u64 r6⟩, ⟨g15, 0, ints .u64 z0⟩, ⟨g16, 0, ints .u64 (List.replicate 5 (0 : Int))⟩] [] → r = (z0) → Q .normal e' w') (e : Env) (w : World) (s2_e : e 2 = .pointer (some ⟨g2, 0, none⟩)) (s5_e : e 5 = .pointer (some ⟨g5, 0, none⟩)) (s7_e : e 7 = .pointer (some ⟨g15, 0, none⟩)) (s9_e : e 9 = .pointer (some ⟨g16, 0, none⟩)) (s50_e : e 50 = .bool ((Int.fdiv (a0.getD 31 0) (2 ^ 7)) == 1)) (hp : Hp w0 Ws w [⟨g1, 0, ints .u8 (a0.set 31 (bits .and .u8 (a0.getD 31 0) 127))⟩, ⟨g2, 0, ints .u64 (List.replicate 20 (0 : Int))⟩, ⟨g5, 0, ints .u64 r4⟩, ⟨g7, 0, ints .u64 r6⟩, ⟨g15, 0, ints .u64 r14.1⟩, ⟨g16, 0, ints .u64 (List.replicate 5 (0 : Int))⟩] []) (h : point_Of.p2 a0 r14 = some r) : Wp Try.prog Try.f30.ntmps (at_ (fbody Try.f30) [1, 1, 1, 1, 1, 1, 1, 1, 1, 0, 1]) Q e w := by
  unfold point_Of.p2 at h
  refine wcondP (p0 := [1, 1, 1, 1, 1, 1, 1, 1, 1, 0, 1, 0]) (p1 := [1, 1, 1, 1, 1, 1, 1, 1, 1, 0, 1, 1]) (t := ((Int.fdiv (a0.getD 31 0) (2 ^ 7)) == 1)) rfl rfl rfl (by decide) s50_e (fun hb => ?_) (fun hb => ?_)
  · replace h := br_t hb h
    refine wregionT point_Of.o13 (.tk 0 (.tk 1 (.ef 2 (.ef 3 (.done))))) [3] rfl rfl (by kernel_rfl) (by kernel_rfl) ?_
    refine k_loadA (n := 5) (xs := ints .u64 (List.replicate 5 (0 : Int))) 0 rfl (by kernel_rfl) (by kernel_rfl) s9_e (hp.get (j := 5) rfl) rfl rfl ((ints_length _ _).trans List.length_replicate) (fun m v hm => by rw [Nat.zero_add]; exact hm) ?_
    refine k_loadA (n := 5) (xs := ints .u64 r14.1) 0 rfl (by kernel_rfl) (by kernel_rfl) s7_e (hp.get (j := 4) rfl) rfl rfl ((ints_length _ _).trans lr140) (fun m v hm => by rw [Nat.zero_add]; exact hm) ?_
    obtain ⟨r20, qr20, h⟩ := bd_e h
    refine k_call [.agg (ints .u64 (List.replicate 5 (0 : Int))).toArray, .agg (ints .u64 r14.1).toArray] rfl (by kernel_rfl) (args2 rfl rfl) (field_Element_Minus_ok (List.replicate 5 (0 : Int)) r14.1 List.length_replicate lr140 _ (hp.toR (fun _ h => by cases h)) qr20) ?_
    rintro _ w' ⟨_, rfl, rfl, lr200, hpc⟩
    refine ⟨_, rfl, .inr (.of_below hpc.chg.to_below), ?_⟩; have hp := hp.below hpc.chg.to_below; clear hpc
    refine k_storeA (v := .agg (ints .u64 r20).toArray) 4 0 (r := ⟨g15, 0, ints .u64 r14.1⟩) (ints .u64 r20) (ints .u64 r20) rfl (n := 5) (by kernel_rfl) s7_e rfl rfl ((ints_length _ _).trans lr200) (ints_one _ _) hp rfl rfl rfl (Nat.le_of_eq ((Nat.zero_add _).trans ((ints_length _ _).trans lr140).symm)) (setMany_all _ _ (((ints_length _ _).trans lr200).trans ((ints_length _ _).trans lr140).symm)) (by decide) ?_; intro w hp
    refine k_end ?_; intro e157 qe157
    have s2_e157 : e157 2 = .pointer (some ⟨g2, 0, none⟩) := (congrFun qe157 2).trans s2_e
    have s5_e157 : e157 5 = .pointer (some ⟨g5, 0, none⟩) := (congrFun qe157 5).trans s5_e
    have s7_e157 : e157 7 = .pointer (some ⟨g15, 0, none⟩) := (congrFun qe157 7).trans s7_e
    clear qe157
    exact hQ0 _ _ r20 lr200 s2_e157 s5_e157 s7_e157 (hp.drop (L' := [⟨g1, 0, ints .u8 (a0.set 31 (bits .and .u8 (a0.getD 31 0) 127))⟩, ⟨g2, 0, ints .u64 (List.replicate 20 (0 : Int))⟩, ⟨g5, 0, ints .u64 r4⟩, ⟨g7, 0, ints .u64 r6⟩, ⟨g15, 0, ints .u64 r20⟩, ⟨g16, 0, ints .u64 (List.replicate 5 (0 : Int))⟩]) (List.Sublist.refl _)) (Option.some.inj h).symm
  · replace h := br_f hb h
    refine wskip rfl ?_
    exact hQ0 _ _ r14.1 lr140 s2_e s5_e s7_e (hp.drop (L' := [⟨g1, 0, ints .u8 (a0.set 31 (bits .and .u8 (a0.getD 31 0) 127))⟩, ⟨g2, 0, ints .u64 (List.replicate 20 (0 : Int))⟩, ⟨g5, 0, ints .u64 r4⟩, ⟨g7, 0, ints .u64 r6⟩, ⟨g15, 0, ints .u64 r14.1⟩, ⟨g16, 0, ints .u64 (List.replicate 5 (0 : Int))⟩]) (List.Sublist.refl _)) (Option.some.inj h).symm
set_option maxHeartbeats 4000000 in
theorem point_Of_ok (k : Nat) (a0 : List Int) (la0 : a0.length = 32) (w0 : World) (hp : Hp w0 [] w0 [] []) {r : List Int × Bool} (h : point_Of.f k a0 = some r) :
    Calls Try.prog 30 [.agg (ints .u8 a0).toArray].toArray w0 fun x w' => ∃ v, x = .returned v ∧ v = .tuple #[.agg (ints .u64 r.1).toArray, .bool r.2] ∧ r.1.length = 20 ∧ Hp w0 [] w' [] [] := by
  refine calls_inP Try.func30 rfl (Nat.le_of_ble_eq_true (by kernel_rfl)) (by kernel_rfl) ?_
  intro e0 qe0
  have s0_e0 : e0 0 = .agg (ints .u8 a0).toArray := congrFun qe0 0
  clear qe0
  unfold point_Of.f at h
  refine wseqP (p0 := [0]) (p1 := [1]) rfl rfl rfl ?_
  refine wregionT point_Of.o1 (.ef 0 (.ef 1 (.tp 2 (.done)))) [] rfl rfl (by kernel_rfl) (by kernel_rfl) ?_
  refine k_box (v := .agg (ints .u8 a0).toArray) (ints .u8 a0) rfl s0_e0 rfl hp ?_
  intro g1 w hbg1 hp
  refine k_alloc (ints .u64 (List.replicate 20 (0 : Int))) rfl (by kernel_rfl) hp ?_
  intro g2 w hbg2 hp
  refine k_assign (v := .bool false) rfl rfl ?_
  refine k_end ?_; intro e142 qe142
  have s1_e142 : e142 1 = .pointer (some ⟨g1, 0, none⟩) := congrFun qe142 1
  have s2_e142 : e142 2 = .pointer (some ⟨g2, 0, none⟩) := congrFun qe142 2
  clear qe142
  refine wseqP (p0 := [1, 0]) (p1 := [1, 1]) rfl rfl rfl ?_
  refine wregionT point_Of.o2 (.tp 0 (.tk 1 (.tp 2 (.tp 3 (.tp 4 (.done)))))) [] rfl rfl (by kernel_rfl) (by kernel_rfl) ?_
  refine k_indexA (n := 32) (s := 1) (j := 31) rfl Try.underlying22 (by kernel_rfl) s1_e142 rfl (by decide) ?_
  refine k_load (j := 31) (v := .int .u8 (a0.getD 31 0)) rfl (by kernel_rfl) rfl (hp.get (j := 0) rfl) rfl rfl (ints_get (Nat.lt_of_lt_of_eq (m := 32) (by decide) (la0).symm)) ?_
  refine k_shr (a := (a0.getD 31 0)) (b := 7) rfl rfl rfl (by decide) ?_
  refine k_bin (X := .int .u8 (Int.fdiv (a0.getD 31 0) (2 ^ 7))) (Y := .int .u8 1) rfl rfl rfl rfl ?_
  refine k_assign (v := .bool ((Int.fdiv (a0.getD 31 0) (2 ^ 7)) == 1)) rfl rfl ?_
  refine k_end ?_; intro e143 qe143
  have s1_e143 : e143 1 = .pointer (some ⟨g1, 0, none⟩) := (congrFun qe143 1).trans s1_e142
  have s2_e143 : e143 2 = .pointer (some ⟨g2, 0, none⟩) := (congrFun qe143 2).trans s2_e142
  have s4_e143 : e143 4 = .bool ((Int.fdiv (a0.getD 31 0) (2 ^ 7)) == 1) := congrFun qe143 4
  clear qe143
  refine wseqP (p0 := [1, 1, 0]) (p1 := [1, 1, 1]) rfl rfl rfl ?_
  refine wregionT point_Of.o3 (.tp 0 (.tk 1 (.tp 2 (.tp 3 (.ef 4 (.done)))))) [4] rfl rfl (by kernel_rfl) (by kernel_rfl) ?_
  refine k_indexA (n := 32) (s := 1) (j := 31) rfl Try.underlying22 (by kernel_rfl) s1_e143 rfl (by decide) ?_
  refine k_load (j := 31) (v := .int .u8 (a0.getD 31 0)) rfl (by kernel_rfl) rfl (hp.get (j := 0) rfl) rfl rfl (ints_get (Nat.lt_of_lt_of_eq (m := 32) (by decide) (la0).symm)) ?_
  refine k_bin (X := .int .u8 (a0.getD 31 0)) (Y := .int .u8 127) rfl rfl rfl rfl ?_
  refine k_indexA (n := 32) (s := 1) (j := 31) rfl Try.underlying22 (by kernel_rfl) s1_e143 rfl (by decide) ?_
  refine k_store (v := .int .u8 (bits .and .u8 (a0.getD 31 0) 127)) 0 31 (r := ⟨g1, 0, ints .u8 a0⟩) rfl (by kernel_rfl) rfl rfl rfl hp rfl rfl rfl (Nat.lt_of_lt_of_eq (Nat.lt_of_lt_of_eq (m := 32) (by decide) (la0).symm) (ints_length _ _).symm) (by decide) ?_; intro w hp; rw [ints_set] at hp
  refine k_end ?_; intro e144 qe144
  have s1_e144 : e144 1 = .pointer (some ⟨g1, 0, none⟩) := (congrFun qe144 1).trans s1_e143
  have s2_e144 : e144 2 = .pointer (some ⟨g2, 0, none⟩) := (congrFun qe144 2).trans s2_e143
  have s4_e144 : e144 4 = .bool ((Int.fdiv (a0.getD 31 0) (2 ^ 7)) == 1) := (congrFun qe144 4).trans s4_e143
  clear qe144
  refine wseqP (p0 := [1, 1, 1, 0]) (p1 := [1, 1, 1, 1]) rfl rfl rfl ?_
  refine wseqP (p0 := [1, 1, 1, 0, 0]) (p1 := [1, 1, 1, 0, 1]) rfl rfl rfl ?_
  refine wregionT point_Of.o4 (.tk 0 (.ef 1 (.tp 2 (.done)))) [] rfl rfl (by kernel_rfl) (by kernel_rfl) ?_
  refine k_loadA (n := 32) (xs := ints .u8 (a0.set 31 (bits .and .u8 (a0.getD 31 0) 127))) 0 rfl (by kernel_rfl) (by kernel_rfl) s1_e144 (hp.get (j := 0) rfl) rfl rfl ((ints_length _ _).trans (List.length_set.trans la0)) (fun m v hm => by rw [Nat.zero_add]; exact hm) ?_
  obtain ⟨r3, qr3, h⟩ := bd_e h
  refine k_call [.agg (ints .u8 (a0.set 31 (bits .and .u8 (a0.getD 31 0) 127))).toArray] rfl (by kernel_rfl) (args1 rfl) (field_Canonical_ok k (a0.set 31 (bits .and .u8 (a0.getD 31 0) 127)) (List.length_set.trans la0) _ (hp.toR (fun _ h => by cases h)) qr3) ?_
  rintro _ w' ⟨_, rfl, rfl, hpc⟩
  refine ⟨_, rfl, .inr (.of_below hpc.chg.to_below), ?_⟩; have hp := hp.below hpc.chg.to_below; clear hpc
  refine k_not (b := r3) rfl rfl ?_
  refine k_end ?_; intro e145 qe145
  have s1_e145 : e145 1 = .pointer (some ⟨g1, 0, none⟩) := (congrFun qe145 1).trans s1_e144
  have s2_e145 : e145 2 = .pointer (some ⟨g2, 0, none⟩) := (congrFun qe145 2).trans s2_e144
  have s4_e145 : e145 4 = .bool ((Int.fdiv (a0.getD 31 0) (2 ^ 7)) == 1) := (congrFun qe145 4).trans s4_e144
  have s20_e145 : e145 20 = .bool (!r3) := congrFun qe145 20
  clear qe145
  refine wcondP (p0 := [1, 1, 1, 0, 1, 0]) (p1 := [1, 1, 1, 0, 1, 1]) (t := (!r3)) rfl rfl rfl (by decide) s20_e145 (fun hb => ?_) (fun hb => ?_)
  · replace h := br_t hb h
    refine wseqP (p0 := [1, 1, 1, 0, 1, 0, 0]) (p1 := [1, 1, 1, 0, 1, 0, 1]) rfl rfl rfl ?_
    refine wregionT point_Of.o5 (.tp 0 (.ef 1 (.tp 2 (.done)))) [1] rfl rfl (by kernel_rfl) (by kernel_rfl) ?_
    refine k_build (v := .agg (ints .u64 (List.replicate 20 (0 : Int))).toArray) rfl (fun _ => by kernel_rfl) ?_
    refine k_storeA (v := .agg (ints .u64 (List.replicate 20 (0 : Int))).toArray) 1 0 (r := ⟨g2, 0, ints .u64 (List.replicate 20 (0 : Int))⟩) (ints .u64 (List.replicate 20 (0 : Int))) (ints .u64 (List.replicate 20 (0 : Int))) rfl (n := 20) (by kernel_rfl) s2_e145 rfl rfl ((ints_length _ _).trans List.length_replicate) (ints_one _ _) hp rfl rfl rfl (Nat.le_of_eq ((Nat.zero_add _).trans ((ints_length _ _).trans List.length_replicate).symm)) (setMany_all _ _ (((ints_length _ _).trans List.length_replicate).trans ((ints_length _ _).trans List.length_replicate).symm)) (by decide) ?_; intro w hp
    refine k_assign (v := .bool false) rfl rfl ?_
    refine k_end ?_; intro e146 qe146
    have s2_e146 : e146 2 = .pointer (some ⟨g2, 0, none⟩) := (congrFun qe146 2).trans s2_e145
    have s3_e146 : e146 3 = .bool false := congrFun qe146 3
    clear qe146
    refine wret rfl ?_
    have hr : r = ((List.replicate 20 (0 : Int)), false) := (Option.some.inj h).symm
    show RetP _ _ _ _ _
    rw [hr]
    exact ret_i [.agg (ints .u64 (List.replicate 20 (0 : Int))).toArray, .bool false] (res_cell s2_e146 (loadVar_agg (by kernel_rfl) (by kernel_rfl) ((ints_length _ _).trans List.length_replicate) (hp.get (j := 1) rfl) rfl rfl rfl) (res_tmp s3_e146 res_nil)) ⟨rfl, List.length_replicate, hp.none⟩
  · replace h := br_f hb h
    refine wskip rfl ?_
    refine wseqP (p0 := [1, 1, 1, 1, 0]) (p1 := [1, 1, 1, 1, 1]) rfl rfl rfl ?_
    refine wregionT point_Of.o6 (.tk 0 (.ef 1 (.ef 2 (.ef 3 (.done))))) [3] rfl rfl (by kernel_rfl) (by kernel_rfl) ?_
    refine k_loadA (n := 32) (xs := ints .u8 (a0.set 31 (bits .and .u8 (a0.getD 31 0) 127))) 0 rfl (by kernel_rfl) (by kernel_rfl) s1_e145 (hp.get (j := 0) rfl) rfl rfl ((ints_length _ _).trans (List.length_set.trans la0)) (fun m v hm => by rw [Nat.zero_add]; exact hm) ?_
    obtain ⟨r4, qr4, h⟩ := bd_e h
    refine k_call [.agg (ints .u8 (a0.set 31 (bits .and .u8 (a0.getD 31 0) 127))).toArray] rfl (by kernel_rfl) (args1 rfl) (field_Of_ok k (a0.set 31 (bits .and .u8 (a0.getD 31 0) 127)) (List.length_set.trans la0) _ (hp.toR (fun _ h => by cases h)) qr4) ?_
    rintro _ w' ⟨_, rfl, rfl, lr40, hpc⟩
    refine ⟨_, rfl, .inr (.of_below hpc.chg.to_below), ?_⟩; have hp := hp.below hpc.chg.to_below; clear hpc
    refine k_alloc (ints .u64 (List.replicate 5 (0 : Int))) rfl (by kernel_rfl) hp ?_
    intro g5 w hbg5 hp
    refine k_storeA (v := .agg (ints .u64 r4).toArray) 2 0 (r := ⟨g5, 0, ints .u64 (List.replicate 5 (0 : Int))⟩) (ints .u64 r4) (ints .u64 r4) rfl (n := 5) (by kernel_rfl) rfl rfl rfl ((ints_length _ _).trans lr40) (ints_one _ _) hp rfl rfl rfl (Nat.le_of_eq ((Nat.zero_add _).trans ((ints_length _ _).trans List.length_replicate).symm)) (setMany_all _ _ (((ints_length _ _).trans lr40).trans ((ints_length _ _).trans List.length_replicate).symm)) (by decide) ?_; intro w hp
    refine k_end ?_; intro e147 qe147
    have s2_e147 : e147 2 = .pointer (some ⟨g2, 0, none⟩) := (congrFun qe147 2).trans s2_e145
    have s4_e147 : e147 4 = .bool ((Int.fdiv (a0.getD 31 0) (2 ^ 7)) == 1) := (congrFun qe147 4).trans s4_e145
    have s5_e147 : e147 5 = .pointer (some ⟨g5, 0, none⟩) := congrFun qe147 5
    clear qe147
    refine wseqP (p0 := [1, 1, 1, 1, 1, 0]) (p1 := [1, 1, 1, 1, 1, 1]) rfl rfl rfl ?_
    refine wregionT point_Of.o7 (.tk 0 (.tk 1 (.ef 2 (.ef 3 (.ef 4 (.done)))))) [4] rfl rfl (by kernel_rfl) (by kernel_rfl) ?_
    refine k_loadA (n := 5) (xs := ints .u64 r4) 0 rfl (by kernel_rfl) (by kernel_rfl) s5_e147 (hp.get (j := 2) rfl) rfl rfl ((ints_length _ _).trans lr40) (fun m v hm => by rw [Nat.zero_add]; exact hm) ?_
    refine k_loadA (n := 5) (xs := ints .u64 r4) 0 rfl (by kernel_rfl) (by kernel_rfl) s5_e147 (hp.get (j := 2) rfl) rfl rfl ((ints_length _ _).trans lr40) (fun m v hm => by rw [Nat.zero_add]; exact hm) ?_
    obtain ⟨r6, qr6, h⟩ := bd_e h
    refine k_call [.agg (ints .u64 r4).toArray, .agg (ints .u64 r4).toArray] rfl (by kernel_rfl) (args2 rfl rfl) (field_Element_Times_ok r4 r4 lr40 lr40 _ (hp.toR (fun _ h => by cases h)) qr6) ?_
    rintro _ w' ⟨_, rfl, rfl, lr60, hpc⟩
    refine ⟨_, rfl, .inr (.of_below hpc.chg.to_below), ?_⟩; have hp := hp.below hpc.chg.to_below; clear hpc
    refine k_alloc (ints .u64 (List.replicate 5 (0 : Int))) rfl (by kernel_rfl) hp ?_
    intro g7 w hbg7 hp
    refine k_storeA (v := .agg (ints .u64 r6).toArray) 3 0 (r := ⟨g7, 0, ints .u64 (List.replicate 5 (0 : Int))⟩) (ints .u64 r6) (ints .u64 r6) rfl (n := 5) (by kernel_rfl) rfl rfl rfl ((ints_length _ _).trans lr60) (ints_one _ _) hp rfl rfl rfl (Nat.le_of_eq ((Nat.zero_add _).trans ((ints_length _ _).trans List.length_replicate).symm)) (setMany_all _ _ (((ints_length _ _).trans lr60).trans ((ints_length _ _).trans List.length_replicate).symm)) (by decide) ?_; intro w hp
    refine k_end ?_; intro e148 qe148
    have s2_e148 : e148 2 = .pointer (some ⟨g2, 0, none⟩) := (congrFun qe148 2).trans s2_e147
    have s4_e148 : e148 4 = .bool ((Int.fdiv (a0.getD 31 0) (2 ^ 7)) == 1) := (congrFun qe148 4).trans s4_e147
    have s5_e148 : e148 5 = .pointer (some ⟨g5, 0, none⟩) := (congrFun qe148 5).trans s5_e147
    have s6_e148 : e148 6 = .pointer (some ⟨g7, 0, none⟩) := congrFun qe148 6
    clear qe148
    refine wseqP (p0 := [1, 1, 1, 1, 1, 1, 0]) (p1 := [1, 1, 1, 1, 1, 1, 1]) rfl rfl rfl ?_
    obtain ⟨r8, qr8, h⟩ := bd_e h
    obtain ⟨r9, qr9, h⟩ := bd_e h
    obtain ⟨r10, qr10, h⟩ := bd_e h
    obtain ⟨r11, qr11, h⟩ := bd_e h
    obtain ⟨r12, qr12, h⟩ := bd_e h
    obtain ⟨r13, qr13, h⟩ := bd_e h
    obtain ⟨r14, qr14, h⟩ := bd_e h
    refine wcut (fun e149 w2 => ∃ g15 : Nat, (((r14.1.length = 5 ∧ e149 2 = .pointer (some ⟨g2, 0, none⟩)) ∧ e149 4 = .bool ((Int.fdiv (a0.getD 31 0) (2 ^ 7)) == 1)) ∧ ((e149 5 = .pointer (some ⟨g5, 0, none⟩) ∧ e149 7 = .pointer (some ⟨g15, 0, none⟩)) ∧ e149 8 = .bool r14.2)) ∧ Hp w0 [] w2 [⟨g1, 0, ints .u8 (a0.set 31 (bits .and .u8 (a0.getD 31 0) 127))⟩, ⟨g2, 0, ints .u64 (List.replicate 20 (0 : Int))⟩, ⟨g5, 0, ints .u64 r4⟩, ⟨g7, 0, ints .u64 r6⟩, ⟨g15, 0, ints .u64 r14.1⟩] []) ?_ ?_
    rotate_left
    · refine wregionM point_Of.o8 (.tk 0 (.tk 3 (.rest 9 13))) [13] [(0, 0, 0), (0, 32767, 32767), (3, 32767, 32767), (0, 0, 0), (4, 32767, 32767), (24, 32767, 32767), (32, 32767, 32767), (96, 32767, 32767), (132, 32767, 32767), (256, 32767, 32767), (512, 32767, 32767), (512, 32767, 32767), (0, 32767, 32767), (6143, 32767, 32767), (16383, 32767, 32767)] rfl rfl (by kernel_rfl) (by kernel_rfl) (Nat.le_of_ble_eq_true (by kernel_rfl)) (by kernel_rfl) (by kernel_rfl) (by kernel_rfl) ?_
      have hp := hp.drew
      refine k_loadA (n := 5) (xs := ints .u64 r6) 0 rfl (by kernel_rfl) (by kernel_rfl) s6_e148 (hp.get (j := 3) rfl) rfl rfl ((ints_length _ _).trans lr60) (fun m v hm => by rw [Nat.zero_add]; exact hm) ?_
      refine k_loadA (n := 5) (xs := ints .u64 r6) 0 rfl (by kernel_rfl) (by kernel_rfl) s6_e148 (hp.get (j := 3) rfl) rfl rfl ((ints_length _ _).trans lr60) (fun m v hm => by rw [Nat.zero_add]; exact hm) ?_
      refine k_rest [1, 2, 4, 5, 6, 7, 8, 9, 10, 11, 12, 13, 14] (fun L e w => ∃ g15 : Nat, ∃ c_g15_0 : List Int, ((((((L 1 = true → r8.length = 5) ∧ (L 2 = true → r9.length = 5)) ∧ (L 4 = true → r10.length = 5)) ∧ (((L 5 = true → r11.length = 5) ∧ (L 6 = true → r12.length = 5)) ∧ (L 7 = true → r13.length = 5))) ∧ ((((L 8 = true → r14.1.length = 5) ∧ (((e 2 = .pointer (some ⟨g2, 0, none⟩) ∧ e 4 = .bool ((Int.fdiv (a0.getD 31 0) (2 ^ 7)) == 1)) ∧ e 5 = .pointer (some ⟨g5, 0, none⟩)) ∧ (e 28 = .agg (ints .u64 r6).toArray ∧ e 31 = .agg (ints .u64 r6).toArray))) ∧ (L 1 = true → e 29 = .agg (ints .u64 r8).toArray)) ∧ (((L 2 = true → e 30 = .agg (ints .u64 r9).toArray) ∧ (L 4 = true → e 32 = .agg (ints .u64 r10).toArray)) ∧ (L 5 = true → e 33 = .agg (ints .u64 r11).toArray)))) ∧ (((((L 6 = true → e 34 = .agg (ints .u64 r12).toArray) ∧ (L 7 = true → e 35 = .agg (ints .u64 r13).toArray)) ∧ (L 8 = true → e 36 = .tuple #[.agg (ints .u64 r14.1).toArray, .bool r14.2])) ∧ (((L 9 = true → e 27 = .tuple #[.agg (ints .u64 r14.1).toArray, .bool r14.2]) ∧ (L 10 = true → e 37 = .agg (ints .u64 r14.1).toArray)) ∧ (L 11 = true → e 38 = .bool r14.2))) ∧ ((((L 12 = true → e 7 = .pointer (some ⟨g15, 0, none⟩)) ∧ (L 14 = true → e 8 = .bool r14.2)) ∧ (L 12 = false → c_g15_0 = ([] : List Int))) ∧ ((L 13 = false → L 12 = true → c_g15_0 = (List.replicate 5 (0 : Int))) ∧ (L 13 = true → c_g15_0 = r14.1))))) ∧ Hp w0 [] w [⟨g1, 0, ints .u8 (a0.set 31 (bits .and .u8 (a0.getD 31 0) 127))⟩, ⟨g2, 0, ints .u64 (List.replicate 20 (0 : Int))⟩, ⟨g5, 0, ints .u64 r4⟩, ⟨g7, 0, ints .u64 r6⟩, ⟨g15, 0, ints .u64 c_g15_0⟩] []) (by kernel_rfl) (by kernel_rfl) ?_ ?_ ?_
      have hp := hp.free1 0 0
      · exact ⟨0, ([] : List Int), ⟨⟨⟨⟨⟨(fun h => absurd h (by decide)), (fun h => absurd h (by decide))⟩, (fun h => absurd h (by decide))⟩, ⟨⟨(fun h => absurd h (by decide)), (fun h => absurd h (by decide))⟩, (fun h => absurd h (by decide))⟩⟩, ⟨⟨⟨(fun h => absurd h (by decide)), ⟨⟨⟨s2_e148, s4_e148⟩, s5_e148⟩, ⟨rfl, rfl⟩⟩⟩, (fun h => absurd h (by decide))⟩, ⟨⟨(fun h => absurd h (by decide)), (fun h => absurd h (by decide))⟩, (fun h => absurd h (by decide))⟩⟩⟩, ⟨⟨⟨⟨(fun h => absurd h (by decide)), (fun h => absurd h (by decide))⟩, (fun h => absurd h (by decide))⟩, ⟨⟨(fun h => absurd h (by decide)), (fun h => absurd h (by decide))⟩, (fun h => absurd h (by decide))⟩⟩, ⟨⟨⟨(fun h => absurd h (by decide)), (fun h => absurd h (by decide))⟩, (fun _ => rfl)⟩, ⟨(fun _ h => absurd h (by decide)), (fun h => absurd h (by decide))⟩⟩⟩⟩, hp⟩
      · rintro L e w hall ⟨g15, c_g15_0, hF, hp⟩
        have qc_g15_0 := hF.2.2.2.2 (hall 13 rfl)
        rw [qc_g15_0] at hp
        exact onlyN_i ⟨g15, ⟨⟨⟨(hF.1.2.1.1.1 (hall 8 rfl)), hF.1.2.1.1.2.1.1.1⟩, hF.1.2.1.1.2.1.1.2⟩, ⟨⟨hF.1.2.1.1.2.1.2, (hF.2.2.1.1.1 (hall 12 rfl))⟩, (hF.2.2.1.1.2 (hall 14 rfl))⟩⟩, hp⟩
      refine allU_cons ?_ ?_
      · rintro L e w hLi hb hcl ⟨g15, c_g15_0, hF, hp⟩
        refine k_call [] rfl (by kernel_rfl) (args0 ) (field_One_ok   _ (hp.toR (fun _ h => by cases h)) qr8) ?_
        rintro _ w' ⟨_, rfl, rfl, lr80, hpc⟩
        refine ⟨_, rfl, .inr (.of_below hpc.chg.to_below), ?_⟩; have hp := hp.below hpc.chg.to_below; clear hpc
        exact k_done ⟨g15, c_g15_0, ⟨⟨⟨⟨⟨(fun _ => lr80), hF.1.1.1.1.2⟩, hF.1.1.1.2⟩, hF.1.1.2⟩, ⟨⟨hF.1.2.1.1, (fun _ => rfl)⟩, hF.1.2.2⟩⟩, hF.2⟩, hp⟩
      refine allU_cons ?_ ?_
      · rintro L e w hLi hb hcl ⟨g15, c_g15_0, hF, hp⟩
        have hL1 := hb 1 (by kernel_rfl)
        have lr80 := hF.1.1.1.1.1 hL1
        refine k_call [.agg (ints .u64 r6).toArray, .agg (ints .u64 r8).toArray] rfl (by kernel_rfl) (args2 hF.1.2.1.1.2.2.1 (hF.1.2.1.2 hL1)) (field_Element_Minus_ok r6 r8 lr60 lr80 _ (hp.toR (fun _ h => by cases h)) qr9) ?_
        rintro _ w' ⟨_, rfl, rfl, lr90, hpc⟩
        refine ⟨_, rfl, .inr (.of_below hpc.chg.to_below), ?_⟩; have hp := hp.below hpc.chg.to_below; clear hpc
        exact k_done ⟨g15, c_g15_0, ⟨⟨⟨⟨⟨hF.1.1.1.1.1, (fun _ => lr90)⟩, hF.1.1.1.2⟩, hF.1.1.2⟩, ⟨hF.1.2.1, ⟨⟨(fun _ => rfl), hF.1.2.2.1.2⟩, hF.1.2.2.2⟩⟩⟩, hF.2⟩, hp⟩
      refine allU_cons ?_ ?_
      · rintro L e w hLi hb hcl ⟨g15, c_g15_0, hF, hp⟩
        refine k_call [] rfl (by kernel_rfl) (args0 ) (point_curve_ok   _ (hp.toR (fun _ h => by cases h)) qr10) ?_
        rintro _ w' ⟨_, rfl, rfl, lr100, hpc⟩
        refine ⟨_, rfl, .inr (.of_below hpc.chg.to_below), ?_⟩; have hp := hp.below hpc.chg.to_below; clear hpc
        exact k_done ⟨g15, c_g15_0, ⟨⟨⟨⟨hF.1.1.1.1, (fun _ => lr100)⟩, hF.1.1.2⟩, ⟨hF.1.2.1, ⟨⟨hF.1.2.2.1.1, (fun _ => rfl)⟩, hF.1.2.2.2⟩⟩⟩, hF.2⟩, hp⟩
      refine allU_cons ?_ ?_
      · rintro L e w hLi hb hcl ⟨g15, c_g15_0, hF, hp⟩
        have hL4 := hb 4 (by kernel_rfl)
        have lr100 := hF.1.1.1.2 hL4
        refine k_call [.agg (ints .u64 r6).toArray, .agg (ints .u64 r10).toArray] rfl (by kernel_rfl) (args2 hF.1.2.1.1.2.2.2 (hF.1.2.2.1.2 hL4)) (field_Element_Times_ok r6 r10 lr60 lr100 _ (hp.toR (fun _ h => by cases h)) qr11) ?_
        rintro _ w' ⟨_, rfl, rfl, lr110, hpc⟩
        refine ⟨_, rfl, .inr (.of_below hpc.chg.to_below), ?_⟩; have hp := hp.below hpc.chg.to_below; clear hpc
        exact k_done ⟨g15, c_g15_0, ⟨⟨⟨hF.1.1.1, ⟨⟨(fun _ => lr110), hF.1.1.2.1.2⟩, hF.1.1.2.2⟩⟩, ⟨hF.1.2.1, ⟨hF.1.2.2.1, (fun _ => rfl)⟩⟩⟩, hF.2⟩, hp⟩
      refine allU_cons ?_ ?_
      · rintro L e w hLi hb hcl ⟨g15, c_g15_0, hF, hp⟩
        refine k_call [] rfl (by kernel_rfl) (args0 ) (field_One_ok   _ (hp.toR (fun _ h => by cases h)) qr12) ?_
        rintro _ w' ⟨_, rfl, rfl, lr120, hpc⟩
        refine ⟨_, rfl, .inr (.of_below hpc.chg.to_below), ?_⟩; have hp := hp.below hpc.chg.to_below; clear hpc
        exact k_done ⟨g15, c_g15_0, ⟨⟨⟨hF.1.1.1, ⟨⟨hF.1.1.2.1.1, (fun _ => lr120)⟩, hF.1.1.2.2⟩⟩, hF.1.2⟩, ⟨⟨⟨⟨(fun _ => rfl), hF.2.1.1.1.2⟩, hF.2.1.1.2⟩, hF.2.1.2⟩, hF.2.2⟩⟩, hp⟩
      refine allU_cons ?_ ?_
      · rintro L e w hLi hb hcl ⟨g15, c_g15_0, hF, hp⟩
        have hL5 := hb 5 (by kernel_rfl)
        have hL6 := hb 6 (by kernel_rfl)
        have lr110 := hF.1.1.2.1.1 hL5
        have lr120 := hF.1.1.2.1.2 hL6
        refine k_call [.agg (ints .u64 r11).toArray, .agg (ints .u64 r12).toArray] rfl (by kernel_rfl) (args2 (hF.1.2.2.2 hL5) (hF.2.1.1.1.1 hL6)) (field_Element_Plus_ok k r11 r12 lr110 lr120 _ (hp.toR (fun _ h => by cases h)) qr13) ?_
        rintro _ w' ⟨_, rfl, rfl, lr130, hpc⟩
        refine ⟨_, rfl, .inr (.of_below hpc.chg.to_below), ?_⟩; have hp := hp.below hpc.chg.to_below; clear hpc
        exact k_done ⟨g15, c_g15_0, ⟨⟨⟨hF.1.1.1, ⟨hF.1.1.2.1, (fun _ => lr130)⟩⟩, hF.1.2⟩, ⟨⟨⟨⟨hF.2.1.1.1.1, (fun _ => rfl)⟩, hF.2.1.1.2⟩, hF.2.1.2⟩, hF.2.2⟩⟩, hp⟩
      refine allU_cons ?_ ?_
      · rintro L e w hLi hb hcl ⟨g15, c_g15_0, hF, hp⟩
        have hL2 := hb 2 (by kernel_rfl)
        have hL7 := hb 7 (by kernel_rfl)
        have lr90 := hF.1.1.1.1.2 hL2
        have lr130 := hF.1.1.2.2 hL7
        refine k_call [.agg (ints .u64 r9).toArray, .agg (ints .u64 r13).toArray] rfl (by kernel_rfl) (args2 (hF.1.2.2.1.1 hL2) (hF.2.1.1.1.2 hL7)) (field_Ratio_ok k r9 r13 lr90 lr130 _ (hp.toR (fun _ h => by cases h)) qr14) ?_
        rintro _ w' ⟨_, rfl, rfl, lr140, hpc⟩
        refine ⟨_, rfl, .inr (.of_below hpc.chg.to_below), ?_⟩; have hp := hp.below hpc.chg.to_below; clear hpc
        exact k_done ⟨g15, c_g15_0, ⟨⟨hF.1.1, ⟨⟨⟨(fun _ => lr140), hF.1.2.1.1.2⟩, hF.1.2.1.2⟩, hF.1.2.2⟩⟩, ⟨⟨⟨hF.2.1.1.1, (fun _ => rfl)⟩, hF.2.1.2⟩, hF.2.2⟩⟩, hp⟩
      refine allU_cons ?_ ?_
      · rintro L e w hLi hb hcl ⟨g15, c_g15_0, hF, hp⟩
        have hL8 := hb 8 (by kernel_rfl)
        refine tp_ef ?_
        refine k_move (v := .tuple #[.agg (ints .u64 r14.1).toArray, .bool r14.2]) rfl (hF.2.1.1.2 hL8) ?_
        exact k_done ⟨g15, c_g15_0, ⟨hF.1, ⟨⟨hF.2.1.1, ⟨⟨(fun _ => rfl), hF.2.1.2.1.2⟩, hF.2.1.2.2⟩⟩, hF.2.2⟩⟩, hp⟩
      refine allU_cons ?_ ?_
      · rintro L e w hLi hb hcl ⟨g15, c_g15_0, hF, hp⟩
        have hL9 := hb 9 (by kernel_rfl)
        refine tp_ef ?_
        refine k_extract (v := .agg (ints .u64 r14.1).toArray) rfl (hF.2.1.2.1.1 hL9) rfl ?_
        exact k_done ⟨g15, c_g15_0, ⟨hF.1, ⟨⟨hF.2.1.1, ⟨⟨hF.2.1.2.1.1, (fun _ => rfl)⟩, hF.2.1.2.2⟩⟩, hF.2.2⟩⟩, hp⟩
      refine allU_cons ?_ ?_
      · rintro L e w hLi hb hcl ⟨g15, c_g15_0, hF, hp⟩
        have hL9 := hb 9 (by kernel_rfl)
        refine tp_ef ?_
        refine k_extract (v := .bool r14.2) rfl (hF.2.1.2.1.1 hL9) rfl ?_
        exact k_done ⟨g15, c_g15_0, ⟨hF.1, ⟨⟨hF.2.1.1, ⟨hF.2.1.2.1, (fun _ => rfl)⟩⟩, hF.2.2⟩⟩, hp⟩
      refine allU_cons ?_ ?_
      · rintro L e w hLi hb hcl ⟨g15, c_g15_0, hF, hp⟩
        have qc_g15_0 := hF.2.2.1.2 hLi
        rw [qc_g15_0] at hp
        refine k_allocAt 4 (ints .u64 (List.replicate 5 (0 : Int))) rfl (by kernel_rfl) hp ?_
        intro g15 w hbg15 hp
        exact k_done ⟨g15, (List.replicate 5 (0 : Int)), ⟨hF.1, ⟨hF.2.1, ⟨⟨⟨(fun _ => rfl), hF.2.2.1.1.2⟩, (fun h => nomatch (show true = false from h))⟩, ⟨(fun _ _ => rfl), (fun h => absurd (hLi.symm.trans (hcl 13 12 (by kernel_rfl) h)) (by decide))⟩⟩⟩⟩, hp⟩
      refine allU_cons ?_ ?_
      · rintro L e w hLi hb hcl ⟨g15, c_g15_0, hF, hp⟩
        have hL8 := hb 8 (by kernel_rfl)
        have hL10 := hb 10 (by kernel_rfl)
        have hL12 := hb 12 (by kernel_rfl)
        have lr140 := hF.1.2.1.1.1 hL8
        have qc_g15_0 := hF.2.2.2.1 hLi hL12
        rw [qc_g15_0] at hp
        refine k_storeA (v := .agg (ints .u64 r14.1).toArray) 4 0 (r := ⟨g15, 0, ints .u64 (List.replicate 5 (0 : Int))⟩) (ints .u64 r14.1) (ints .u64 r14.1) rfl (n := 5) (by kernel_rfl) (hF.2.2.1.1.1 hL12) (hF.2.1.2.1.2 hL10) rfl ((ints_length _ _).trans lr140) (ints_one _ _) hp rfl rfl rfl (Nat.le_of_eq ((Nat.zero_add _).trans ((ints_length _ _).trans List.length_replicate).symm)) (setMany_all _ _ (((ints_length _ _).trans lr140).trans ((ints_length _ _).trans List.length_replicate).symm)) (by decide) ?_; intro w hp
        exact k_done ⟨g15, r14.1, ⟨hF.1, ⟨hF.2.1, ⟨⟨hF.2.2.1.1, (fun h => absurd (hL12.symm.trans h) (by decide))⟩, ⟨(fun h _ => nomatch (show true = false from h)), (fun _ => rfl)⟩⟩⟩⟩, hp⟩
      refine allU_cons ?_ allU_nil
      · rintro L e w hLi hb hcl ⟨g15, c_g15_0, hF, hp⟩
        have hL11 := hb 11 (by kernel_rfl)
        refine tp_ef ?_
        refine k_assign (v := .bool r14.2) rfl (hF.2.1.2.2 hL11) ?_
        exact k_done ⟨g15, c_g15_0, ⟨hF.1, ⟨hF.2.1, ⟨⟨⟨hF.2.2.1.1.1, (fun _ => rfl)⟩, hF.2.2.1.2⟩, hF.2.2.2⟩⟩⟩, hp⟩
    rintro e149 w ⟨g15, hF, hp⟩
    have lr140 := hF.1.1.1
    have s2_e149 := hF.1.1.2
    have s4_e149 := hF.1.2
    have s5_e149 := hF.2.1.1
    have s7_e149 := hF.2.1.2
    have s8_e149 := hF.2.2
    clear hF
    refine wseqP (p0 := [1, 1, 1, 1, 1, 1, 1, 0]) (p1 := [1, 1, 1, 1, 1, 1, 1, 1]) rfl rfl rfl ?_
    refine wregionT point_Of.o9 (.ef 0 (.done)) [] rfl rfl (by kernel_rfl) (by kernel_rfl) ?_
    refine k_alloc (ints .u64 (List.replicate 5 (0 : Int))) rfl (by kernel_rfl) hp ?_
    intro g16 w hbg16 hp
    refine k_end ?_; intro e150 qe150
    have s2_e150 : e150 2 = .pointer (some ⟨g2, 0, none⟩) := (congrFun qe150 2).trans s2_e149
    have s4_e150 : e150 4 = .bool ((Int.fdiv (a0.getD 31 0) (2 ^ 7)) == 1) := (congrFun qe150 4).trans s4_e149
    have s5_e150 : e150 5 = .pointer (some ⟨g5, 0, none⟩) := (congrFun qe150 5).trans s5_e149
    have s7_e150 : e150 7 = .pointer (some ⟨g15, 0, none⟩) := (congrFun qe150 7).trans s7_e149
    have s8_e150 : e150 8 = .bool r14.2 := (congrFun qe150 8).trans s8_e149
    have s9_e150 : e150 9 = .pointer (some ⟨g16, 0, none⟩) := congrFun qe150 9
    clear qe150
    refine wseqP (p0 := [1, 1, 1, 1, 1, 1, 1, 1, 0]) (p1 := [1, 1, 1, 1, 1, 1, 1, 1, 1]) rfl rfl rfl ?_
    refine wseqP (p0 := [1, 1, 1, 1, 1, 1, 1, 1, 0, 0]) (p1 := [1, 1, 1, 1, 1, 1, 1, 1, 0, 1]) rfl rfl rfl ?_
    obtain ⟨r18, qr18, h⟩ := bd_e h
    refine point_Of.p1_ok k g1 g15 g16 g2 g5 g7 a0 r14 r4 r6 la0 lr40 lr60 lr140 ?hq0 e150 _ s2_e150 s4_e150 s5_e150 s7_e150 s8_e150 s9_e150 hp qr18
    case hq0 =>
      intro e154 w m19  s2_e154 s4_e154 s5_e154 s7_e154 s9_e154 s48_e154 hp qq
      rw [qq] at h; clear qq
      refine wcondP (p0 := [1, 1, 1, 1, 1, 1, 1, 1, 0, 1, 0]) (p1 := [1, 1, 1, 1, 1, 1, 1, 1, 0, 1, 1]) (t := m19) rfl rfl rfl (by decide) s48_e154 (fun hb => ?_) (fun hb => ?_)
      · replace h := br_t hb h
        refine wseqP (p0 := [1, 1, 1, 1, 1, 1, 1, 1, 0, 1, 0, 0]) (p1 := [1, 1, 1, 1, 1, 1, 1, 1, 0, 1, 0, 1]) rfl rfl rfl ?_
        refine wregionT point_Of.o11 (.tp 0 (.ef 1 (.tp 2 (.done)))) [1] rfl rfl (by kernel_rfl) (by kernel_rfl) ?_
        refine k_build (v := .agg (ints .u64 (List.replicate 20 (0 : Int))).toArray) rfl (fun _ => by kernel_rfl) ?_
        refine k_storeA (v := .agg (ints .u64 (List.replicate 20 (0 : Int))).toArray) 1 0 (r := ⟨g2, 0, ints .u64 (List.replicate 20 (0 : Int))⟩) (ints .u64 (List.replicate 20 (0 : Int))) (ints .u64 (List.replicate 20 (0 : Int))) rfl (n := 20) (by kernel_rfl) s2_e154 rfl rfl ((ints_length _ _).trans List.length_replicate) (ints_one _ _) hp rfl rfl rfl (Nat.le_of_eq ((Nat.zero_add _).trans ((ints_length _ _).trans List.length_replicate).symm)) (setMany_all _ _ (((ints_length _ _).trans List.length_replicate).trans ((ints_length _ _).trans List.length_replicate).symm)) (by decide) ?_; intro w hp
        refine k_assign (v := .bool false) rfl rfl ?_
        refine k_end ?_; intro e155 qe155
        have s2_e155 : e155 2 = .pointer (some ⟨g2, 0, none⟩) := (congrFun qe155 2).trans s2_e154
        have s3_e155 : e155 3 = .bool false := congrFun qe155 3
        clear qe155
        refine wret rfl ?_
        have hr : r = ((List.replicate 20 (0 : Int)), false) := (Option.some.inj h).symm
        show RetP _ _ _ _ _
        rw [hr]
        exact ret_i [.agg (ints .u64 (List.replicate 20 (0 : Int))).toArray, .bool false] (res_cell s2_e155 (loadVar_agg (by kernel_rfl) (by kernel_rfl) ((ints_length _ _).trans List.length_replicate) (hp.get (j := 1) rfl) rfl rfl rfl) (res_tmp s3_e155 res_nil)) ⟨rfl, List.length_replicate, hp.none⟩
      · replace h := br_f hb h
        refine wskip rfl ?_
        refine wseqP (p0 := [1, 1, 1, 1, 1, 1, 1, 1, 1, 0]) (p1 := [1, 1, 1, 1, 1, 1, 1, 1, 1, 1]) rfl rfl rfl ?_
        refine wseqP (p0 := [1, 1, 1, 1, 1, 1, 1, 1, 1, 0, 0]) (p1 := [1, 1, 1, 1, 1, 1, 1, 1, 1, 0, 1]) rfl rfl rfl ?_
        refine wregionT point_Of.o12 (.tp 0 (.done)) [] rfl rfl (by kernel_rfl) (by kernel_rfl) ?_
        refine k_move (v := .bool ((Int.fdiv (a0.getD 31 0) (2 ^ 7)) == 1)) rfl s4_e154 ?_
        refine k_end ?_; intro e156 qe156
        have s2_e156 : e156 2 = .pointer (some ⟨g2, 0, none⟩) := (congrFun qe156 2).trans s2_e154
        have s5_e156 : e156 5 = .pointer (some ⟨g5, 0, none⟩) := (congrFun qe156 5).trans s5_e154
        have s7_e156 : e156 7 = .pointer (some ⟨g15, 0, none⟩) := (congrFun qe156 7).trans s7_e154
        have s9_e156 : e156 9 = .pointer (some ⟨g16, 0, none⟩) := (congrFun qe156 9).trans s9_e154
        have s50_e156 : e156 50 = .bool ((Int.fdiv (a0.getD 31 0) (2 ^ 7)) == 1) := congrFun qe156 50
        clear qe156
        obtain ⟨r21, qr21, h⟩ := bd_e h
        refine point_Of.p2_ok g1 g15 g16 g2 g5 g7 a0 r4 r6 r14 la0 lr40 lr60 lr140 ?hq0 e156 _ s2_e156 s5_e156 s7_e156 s9_e156 s50_e156 hp qr21
        case hq0 =>
          intro e158 w m22 lm22 s2_e158 s5_e158 s7_e158 hp qq
          rw [qq] at h; clear qq
          refine wseqP (p0 := [1, 1, 1, 1, 1, 1, 1, 1, 1, 1, 0]) (p1 := [1, 1, 1, 1, 1, 1, 1, 1, 1, 1, 1]) rfl rfl rfl ?_
          refine wregionM point_Of.o14 (.tk 0 (.tk 1 (.tk 3 (.tk 4 (.ef 2 (.ef 5 (.tp 6 (.ef 7 (.tp 8 (.done)))))))))) [7] [(0, 0, 0), (0, 0, 0), (0, 511, 511), (0, 0, 0), (0, 0, 0), (28, 511, 511), (39, 39, 511), (127, 511, 511), (255, 0, 511)] rfl rfl (by kernel_rfl) (by kernel_rfl) (Nat.le_of_ble_eq_true (by kernel_rfl)) (by kernel_rfl) (by kernel_rfl) (by kernel_rfl) ?_
          have hp := hp.drew
          refine k_loadA (n := 5) (xs := ints .u64 m22) 0 rfl (by kernel_rfl) (by kernel_rfl) s7_e158 (hp.get (j := 4) rfl) rfl rfl ((ints_length _ _).trans lm22) (fun m v hm => by rw [Nat.zero_add]; exact hm) ?_
          refine k_loadA (n := 5) (xs := ints .u64 r4) 0 rfl (by kernel_rfl) (by kernel_rfl) s5_e158 (hp.get (j := 2) rfl) rfl rfl ((ints_length _ _).trans lr40) (fun m v hm => by rw [Nat.zero_add]; exact hm) ?_
          refine k_loadA (n := 5) (xs := ints .u64 m22) 0 rfl (by kernel_rfl) (by kernel_rfl) s7_e158 (hp.get (j := 4) rfl) rfl rfl ((ints_length _ _).trans lm22) (fun m v hm => by rw [Nat.zero_add]; exact hm) ?_
          refine k_loadA (n := 5) (xs := ints .u64 r4) 0 rfl (by kernel_rfl) (by kernel_rfl) s5_e158 (hp.get (j := 2) rfl) rfl rfl ((ints_length _ _).trans lr40) (fun m v hm => by rw [Nat.zero_add]; exact hm) ?_
          obtain ⟨r23, qr23, h⟩ := bd_e h
          refine k_call [] rfl (by kernel_rfl) (args0 ) (field_One_ok   _ (hp.toR (fun _ h => by cases h)) qr23) ?_
          rintro _ w' ⟨_, rfl, rfl, lr230, hpc⟩
          refine ⟨_, rfl, .inr (.of_below hpc.chg.to_below), ?_⟩; have hp := hp.below hpc.chg.to_below; clear hpc
          obtain ⟨r24, qr24, h⟩ := bd_e h
          refine k_call [.agg (ints .u64 m22).toArray, .agg (ints .u64 r4).toArray] rfl (by kernel_rfl) (args2 rfl rfl) (field_Element_Times_ok m22 r4 lm22 lr40 _ (hp.toR (fun _ h => by cases h)) qr24) ?_
          rintro _ w' ⟨_, rfl, rfl, lr240, hpc⟩
          refine ⟨_, rfl, .inr (.of_below hpc.chg.to_below), ?_⟩; have hp := hp.below hpc.chg.to_below; clear hpc
          refine k_buildP (v := .agg (ints .u64 (m22 ++ r4 ++ r23 ++ r24)).toArray) [(0, .agg (ints .u64 m22).toArray), (1, .agg (ints .u64 r4).toArray), (2, .agg (ints .u64 r23).toArray), (3, .agg (ints .u64 r24).toArray)] rfl (pcons rfl (pcons rfl (pcons rfl (pcons rfl pnil)))) (fun _ => by rw [lst m22 lm22, lst r4 lr40, lst r23 lr230, lst r24 lr240]; kernel_rfl) ?_
          refine k_storeA (v := .agg (ints .u64 (m22 ++ r4 ++ r23 ++ r24)).toArray) 1 0 (r := ⟨g2, 0, ints .u64 (List.replicate 20 (0 : Int))⟩) (ints .u64 (m22 ++ r4 ++ r23 ++ r24)) (ints .u64 (m22 ++ r4 ++ r23 ++ r24)) rfl (n := 20) (by kernel_rfl) s2_e158 rfl rfl ((ints_length _ _).trans (show List.length ((m22 ++ r4 ++ r23 ++ r24) : List Int) = 20 by simp [lm22, lr40, lr230, lr240])) (ints_one _ _) hp rfl rfl rfl (Nat.le_of_eq ((Nat.zero_add _).trans ((ints_length _ _).trans List.length_replicate).symm)) (setMany_all _ _ (((ints_length _ _).trans (show List.length ((m22 ++ r4 ++ r23 ++ r24) : List Int) = 20 by simp [lm22, lr40, lr230, lr240])).trans ((ints_length _ _).trans List.length_replicate).symm)) (by decide) ?_; intro w hp
          refine k_assign (v := .bool true) rfl rfl ?_
          refine k_end ?_; intro e159 qe159
          have s2_e159 : e159 2 = .pointer (some ⟨g2, 0, none⟩) := (congrFun qe159 2).trans s2_e158
          have s3_e159 : e159 3 = .bool true := congrFun qe159 3
          clear qe159
          refine wret rfl ?_
          have hr : r = ((m22 ++ r4 ++ r23 ++ r24), true) := (Option.some.inj h).symm
          show RetP _ _ _ _ _
          rw [hr]
          exact ret_i [.agg (ints .u64 (m22 ++ r4 ++ r23 ++ r24)).toArray, .bool true] (res_cell s2_e159 (loadVar_agg (by kernel_rfl) (by kernel_rfl) ((ints_length _ _).trans (show List.length ((m22 ++ r4 ++ r23 ++ r24) : List Int) = 20 by simp [lm22, lr40, lr230, lr240])) (hp.get (j := 1) rfl) rfl rfl rfl) (res_tmp s3_e159 res_nil)) ⟨rfl, (show List.length ((m22 ++ r4 ++ r23 ++ r24) : List Int) = 20 by simp [lm22, lr40, lr230, lr240]), hp.none⟩
/-! 31 (postilion/point.Point).Minus -/
noncomputable def point_Point_Minus.o1 : Array Oper := opsC (at_ (fbody Try.f31) [0])
noncomputable def point_Point_Minus.o2 : Array Oper := opsC (at_ (fbody Try.f31) [1, 0])
noncomputable def point_Point_Minus.o3 : Array Oper := opsC (at_ (fbody Try.f31) [1, 1, 0])
theorem point_Point_Minus_ok (a0 : List Int) (la0 : a0.length = 20) (w0 : World) (hp : Hp w0 [] w0 [] []) {r : List Int} (h : point_Point_Minus.f a0 = some r) :
    Calls Try.prog 31 [.agg (ints .u64 a0).toArray].toArray w0 fun x w' => ∃ v, x = .returned v ∧ v = .agg (ints .u64 r).toArray ∧ r.length = 20 ∧ Hp w0 [] w' [] [] := by
  refine calls_inP Try.func31 rfl (Nat.le_of_ble_eq_true (by kernel_rfl)) (by kernel_rfl) ?_
  intro e0 qe0
  have s0_e0 : e0 0 = .agg (ints .u64 a0).toArray := congrFun qe0 0
  clear qe0
  unfold point_Point_Minus.f at h
  refine wseqP (p0 := [0]) (p1 := [1]) rfl rfl rfl ?_
  refine wregionT point_Point_Minus.o1 (.ef 0 (.ef 1 (.done))) [] rfl rfl (by kernel_rfl) (by kernel_rfl) ?_
  refine k_box (v := .agg (ints .u64 a0).toArray) (ints .u64 a0) rfl s0_e0 rfl hp ?_
  intro g1 w hbg1 hp
  refine k_alloc (ints .u64 (List.replicate 20 (0 : Int))) rfl (by kernel_rfl) hp ?_
  intro g2 w hbg2 hp
  refine k_end ?_; intro e160 qe160
  have s1_e160 : e160 1 = .pointer (some ⟨g1, 0, none⟩) := congrFun qe160 1
  have s2_e160 : e160 2 = .pointer (some ⟨g2, 0, none⟩) := congrFun qe160 2
  clear qe160
  refine wseqP (p0 := [1, 0]) (p1 := [1, 1]) rfl rfl rfl ?_
  refine wregionT point_Point_Minus.o2 (.ef 0 (.done)) [] rfl rfl (by kernel_rfl) (by kernel_rfl) ?_
  refine k_alloc (ints .u64 (List.replicate 5 (0 : Int))) rfl (by kernel_rfl) hp ?_
  intro g3 w hbg3 hp
  refine k_end ?_; intro e161 qe161
  have s1_e161 : e161 1 = .pointer (some ⟨g1, 0, none⟩) := (congrFun qe161 1).trans s1_e160
  have s2_e161 : e161 2 = .pointer (some ⟨g2, 0, none⟩) := (congrFun qe161 2).trans s2_e160
  have s3_e161 : e161 3 = .pointer (some ⟨g3, 0, none⟩) := congrFun qe161 3
  clear qe161
  refine wseqP (p0 := [1, 1, 0]) (p1 := [1, 1, 1]) rfl rfl rfl ?_
  refine wregionM point_Point_Minus.o3 (.tk 0 (.tp 1 (.tk 2 (.tp 4 (.tk 5 (.tp 6 (.tk 7 (.tk 8 (.tp 9 (.tk 10 (.ef 3 (.ef 11 (.tp 12 (.ef 13 (.done))))))))))))))) [13] [(0, 0, 0), (0, 0, 16383), (2, 2, 0), (5, 16383, 16383), (0, 0, 16383), (16, 16, 0), (0, 0, 16383), (64, 64, 0), (0, 0, 0), (0, 0, 16383), (512, 512, 0), (1288, 16383, 16383), (2216, 2216, 16383), (8191, 16383, 16383)] rfl rfl (by kernel_rfl) (by kernel_rfl) (Nat.le_of_ble_eq_true (by kernel_rfl)) (by kernel_rfl) (by kernel_rfl) (by kernel_rfl) ?_
  have hp := hp.drew
  refine k_loadA (n := 5) (xs := ints .u64 (List.replicate 5 (0 : Int))) 0 rfl (by kernel_rfl) (by kernel_rfl) s3_e161 (hp.get (j := 2) rfl) rfl rfl ((ints_length _ _).trans List.length_replicate) (fun m v hm => by rw [Nat.zero_add]; exact hm) ?_
  refine k_fieldAddr (n := 0) rfl (by kernel_rfl) s1_e161 ?_
  refine k_loadA (n := 5) (xs := ints .u64 ((a0.drop 0).take 5)) 0 rfl (by kernel_rfl) (by kernel_rfl) rfl (hp.get (j := 0) rfl) rfl rfl ((ints_length _ _).trans (show List.length ((a0.drop 0).take 5) = 5 from part_len la0 (by decide))) (fun m v hm => part_get hm) ?_
  refine k_fieldAddr (n := 5) rfl (by kernel_rfl) s1_e161 ?_
  refine k_loadA (n := 5) (xs := ints .u64 ((a0.drop 5).take 5)) 5 rfl (by kernel_rfl) (by kernel_rfl) rfl (hp.get (j := 0) rfl) rfl rfl ((ints_length _ _).trans (show List.length ((a0.drop 5).take 5) = 5 from part_len la0 (by decide))) (fun m v hm => part_get hm) ?_
  refine k_fieldAddr (n := 10) rfl (by kernel_rfl) s1_e161 ?_
  refine k_loadA (n := 5) (xs := ints .u64 ((a0.drop 10).take 5)) 10 rfl (by kernel_rfl) (by kernel_rfl) rfl (hp.get (j := 0) rfl) rfl rfl ((ints_length _ _).trans (show List.length ((a0.drop 10).take 5) = 5 from part_len la0 (by decide))) (fun m v hm => part_get hm) ?_
  refine k_loadA (n := 5) (xs := ints .u64 (List.replicate 5 (0 : Int))) 0 rfl (by kernel_rfl) (by kernel_rfl) s3_e161 (hp.get (j := 2) rfl) rfl rfl ((ints_length _ _).trans List.length_replicate) (fun m v hm => by rw [Nat.zero_add]; exact hm) ?_
  refine k_fieldAddr (n := 15) rfl (by kernel_rfl) s1_e161 ?_
  refine k_loadA (n := 5) (xs := ints .u64 ((a0.drop 15).take 5)) 15 rfl (by kernel_rfl) (by kernel_rfl) rfl (hp.get (j := 0) rfl) rfl rfl ((ints_length _ _).trans (show List.length ((a0.drop 15).take 5) = 5 from part_len la0 (by decide))) (fun m v hm => part_get hm) ?_
  obtain ⟨r4, qr4, h⟩ := bd_e h
  refine k_call [.agg (ints .u64 (List.replicate 5 (0 : Int))).toArray, .agg (ints .u64 ((a0.drop 0).take 5)).toArray] rfl (by kernel_rfl) (args2 rfl rfl) (field_Element_Minus_ok (List.replicate 5 (0 : Int)) ((a0.drop 0).take 5) List.length_replicate (show List.length ((a0.drop 0).take 5) = 5 from part_len la0 (by decide)) _ (hp.toR (fun _ h => by cases h)) qr4) ?_
  rintro _ w' ⟨_, rfl, rfl, lr40, hpc⟩
  refine ⟨_, rfl, .inr (.of_below hpc.chg.to_below), ?_⟩; have hp := hp.below hpc.chg.to_below; clear hpc
  obtain ⟨r5, qr5, h⟩ := bd_e h
  refine k_call [.agg (ints .u64 (List.replicate 5 (0 : Int))).toArray, .agg (ints .u64 ((a0.drop 15).take 5)).toArray] rfl (by kernel_rfl) (args2 rfl rfl) (field_Element_Minus_ok (List.replicate 5 (0 : Int)) ((a0.drop 15).take 5) List.length_replicate (show List.length ((a0.drop 15).take 5) = 5 from part_len la0 (by decide)) _ (hp.toR (fun _ h => by cases h)) qr5) ?_
  rintro _ w' ⟨_, rfl, rfl, lr50, hpc⟩
  refine ⟨_, rfl, .inr (.of_below hpc.chg.to_below), ?_⟩; have hp := hp.below hpc.chg.to_below; clear hpc
  refine k_buildP (v := .agg (ints .u64 (r4 ++ ((a0.drop 5).take 5) ++ ((a0.drop 10).take 5) ++ r5)).toArray) [(0, .agg (ints .u64 r4).toArray), (1, .agg (ints .u64 ((a0.drop 5).take 5)).toArray), (2, .agg (ints .u64 ((a0.drop 10).take 5)).toArray), (3, .agg (ints .u64 r5).toArray)] rfl (pcons rfl (pcons rfl (pcons rfl (pcons rfl pnil)))) (fun _ => by rw [lst r4 lr40, lst ((a0.drop 5).take 5) (show List.length ((a0.drop 5).take 5) = 5 from part_len la0 (by decide)), lst ((a0.drop 10).take 5) (show List.length ((a0.drop 10).take 5) = 5 from part_len la0 (by decide)), lst r5 lr50]; kernel_rfl) ?_
  refine k_storeA (v := .agg (ints .u64 (r4 ++ ((a0.drop 5).take 5) ++ ((a0.drop 10).take 5) ++ r5)).toArray) 1 0 (r := ⟨g2, 0, ints .u64 (List.replicate 20 (0 : Int))⟩) (ints .u64 (r4 ++ ((a0.drop 5).take 5) ++ ((a0.drop 10).take 5) ++ r5)) (ints .u64 (r4 ++ ((a0.drop 5).take 5) ++ ((a0.drop 10).take 5) ++ r5)) rfl (n := 20) (by kernel_rfl) s2_e161 rfl rfl ((ints_length _ _).trans (show List.length ((r4 ++ ((a0.drop 5).take 5) ++ ((a0.drop 10).take 5) ++ r5) : List Int) = 20 by simp [lr40, (show List.length ((a0.drop 5).take 5) = 5 from part_len la0 (by decide)), (show List.length ((a0.drop 10).take 5) = 5 from part_len la0 (by decide)), lr50])) (ints_one _ _) hp rfl rfl rfl (Nat.le_of_eq ((Nat.zero_add _).trans ((ints_length _ _).trans List.length_replicate).symm)) (setMany_all _ _ (((ints_length _ _).trans (show List.length ((r4 ++ ((a0.drop 5).take 5) ++ ((a0.drop 10).take 5) ++ r5) : List Int) = 20 by simp [lr40, (show List.length ((a0.drop 5).take 5) = 5 from part_len la0 (by decide)), (show List.length ((a0.drop 10).take 5) = 5 from part_len la0 (by decide)), lr50])).trans ((ints_length _ _).trans List.length_replicate).symm)) (by decide) ?_; intro w hp
  refine k_end ?_; intro e162 qe162
  have s2_e162 : e162 2 = .pointer (some ⟨g2, 0, none⟩) := (congrFun qe162 2).trans s2_e161
  clear qe162
  refine wret rfl ?_
  have hr : r = (r4 ++ ((a0.drop 5).take 5) ++ ((a0.drop 10).take 5) ++ r5) := (Option.some.inj h).symm
  show RetP _ _ _ _ _
  rw [hr]
  exact ret_i [.agg (ints .u64 (r4 ++ ((a0.drop 5).take 5) ++ ((a0.drop 10).take 5) ++ r5)).toArray] (res_cell s2_e162 (loadVar_agg (by kernel_rfl) (by kernel_rfl) ((ints_length _ _).trans (show List.length ((r4 ++ ((a0.drop 5).take 5) ++ ((a0.drop 10).take 5) ++ r5) : List Int) = 20 by simp [lr40, (show List.length ((a0.drop 5).take 5) = 5 from part_len la0 (by decide)), (show List.length ((a0.drop 10).take 5) = 5 from part_len la0 (by decide)), lr50])) (hp.get (j := 1) rfl) rfl rfl rfl) res_nil) ⟨rfl, (show List.length ((r4 ++ ((a0.drop 5).take 5) ++ ((a0.drop 10).take 5) ++ r5) : List Int) = 20 by simp [lr40, (show List.length ((a0.drop 5).take 5) = 5 from part_len la0 (by decide)), (show List.length ((a0.drop 10).take 5) = 5 from part_len la0 (by decide)), lr50]), hp.none⟩
/-! 9 postilion/point.Neg -/
noncomputable def point_Neg.o1 : Array Oper := opsC (at_ (fbody Try.f9) [0])
noncomputable def point_Neg.o2 : Array Oper := opsC (at_ (fbody Try.f9) [1, 0])
noncomputable def point_Neg.o3 : Array Oper := opsC (at_ (fbody Try.f9) [1, 1, 0, 0])
noncomputable def point_Neg.o4 : Array Oper := opsC (at_ (fbody Try.f9) [1, 1, 0, 1, 0, 0])
noncomputable def point_Neg.o5 : Array Oper := opsC (at_ (fbody Try.f9) [1, 1, 1, 0])
theorem point_Neg_ok (k : Nat) (a0 : List Int) (la0 : a0.length = 32) (w0 : World) (hp : Hp w0 [] w0 [] []) {r : List Int × Int} (h : point_Neg.f k a0 = some r) :
    Calls Try.prog 9 [.agg (ints .u8 a0).toArray].toArray w0 fun x w' => ∃ v, x = .returned v ∧ v = .tuple #[.agg (ints .u8 r.1).toArray, .int .i64 r.2] ∧ r.1.length = 32 ∧ Hp w0 [] w' [] [] := by
  refine calls_inP Try.func9 rfl (Nat.le_of_ble_eq_true (by kernel_rfl)) (by kernel_rfl) ?_
  intro e0 qe0
  have s0_e0 : e0 0 = .agg (ints .u8 a0).toArray := congrFun qe0 0
  clear qe0
  unfold point_Neg.f at h
  refine wseqP (p0 := [0]) (p1 := [1]) rfl rfl rfl ?_
  refine wregionT point_Neg.o1 (.ef 0 (.ef 1 (.tp 2 (.done)))) [] rfl rfl (by kernel_rfl) (by kernel_rfl) ?_
  refine k_box (v := .agg (ints .u8 a0).toArray) (ints .u8 a0) rfl s0_e0 rfl hp ?_
  intro g1 w hbg1 hp
  refine k_alloc (ints .u8 (List.replicate 32 (0 : Int))) rfl (by kernel_rfl) hp ?_
  intro g2 w hbg2 hp
  refine k_assign (v := .int .i64 0) rfl rfl ?_
  refine k_end ?_; intro e163 qe163
  have s1_e163 : e163 1 = .pointer (some ⟨g1, 0, none⟩) := congrFun qe163 1
  have s2_e163 : e163 2 = .pointer (some ⟨g2, 0, none⟩) := congrFun qe163 2
  clear qe163
  refine wseqP (p0 := [1, 0]) (p1 := [1, 1]) rfl rfl rfl ?_
  refine wregionT point_Neg.o2 (.tk 0 (.ef 1 (.tp 2 (.tp 3 (.tp 4 (.ef 5 (.ef 6 (.tp 7 (.done))))))))) [6] rfl rfl (by kernel_rfl) (by kernel_rfl) ?_
  refine k_loadA (n := 32) (xs := ints .u8 a0) 0 rfl (by kernel_rfl) (by kernel_rfl) s1_e163 (hp.get (j := 0) rfl) rfl rfl ((ints_length _ _).trans la0) (fun m v hm => by rw [Nat.zero_add]; exact hm) ?_
  obtain ⟨r3, qr3, h⟩ := bd_e h
  refine k_call [.agg (ints .u8 a0).toArray] rfl (by kernel_rfl) (args1 rfl) (point_Of_ok k a0 la0 _ (hp.toR (fun _ h => by cases h)) qr3) ?_
  rintro _ w' ⟨_, rfl, rfl, lr30, hpc⟩
  refine ⟨_, rfl, .inr (.of_below hpc.chg.to_below), ?_⟩; have hp := hp.below hpc.chg.to_below; clear hpc
  refine k_move (v := .tuple #[.agg (ints .u64 r3.1).toArray, .bool r3.2]) rfl rfl ?_
  refine k_extract (v := .agg (ints .u64 r3.1).toArray) rfl rfl rfl ?_
  refine k_extract (v := .bool r3.2) rfl rfl rfl ?_
  refine k_alloc (ints .u64 (List.replicate 20 (0 : Int))) rfl (by kernel_rfl) hp ?_
  intro g4 w hbg4 hp
  refine k_storeA (v := .agg (ints .u64 r3.1).toArray) 2 0 (r := ⟨g4, 0, ints .u64 (List.replicate 20 (0 : Int))⟩) (ints .u64 r3.1) (ints .u64 r3.1) rfl (n := 20) (by kernel_rfl) rfl rfl rfl ((ints_length _ _).trans lr30) (ints_one _ _) hp rfl rfl rfl (Nat.le_of_eq ((Nat.zero_add _).trans ((ints_length _ _).trans List.length_replicate).symm)) (setMany_all _ _ (((ints_length _ _).trans lr30).trans ((ints_length _ _).trans List.length_replicate).symm)) (by decide) ?_; intro w hp
  refine k_assign (v := .bool r3.2) rfl rfl ?_
  refine k_end ?_; intro e164 qe164
  have s2_e164 : e164 2 = .pointer (some ⟨g2, 0, none⟩) := (congrFun qe164 2).trans s2_e163
  have s4_e164 : e164 4 = .pointer (some ⟨g4, 0, none⟩) := congrFun qe164 4
  have s5_e164 : e164 5 = .bool r3.2 := congrFun qe164 5
  clear qe164
  refine wseqP (p0 := [1, 1, 0]) (p1 := [1, 1, 1]) rfl rfl rfl ?_
  refine wseqP (p0 := [1, 1, 0, 0]) (p1 := [1, 1, 0, 1]) rfl rfl rfl ?_
  refine wregionT point_Neg.o3 (.tp 0 (.tp 1 (.done))) [] rfl rfl (by kernel_rfl) (by kernel_rfl) ?_
  refine k_move (v := .bool r3.2) rfl s5_e164 ?_
  refine k_not (b := r3.2) rfl rfl ?_
  refine k_end ?_; intro e165 qe165
  have s2_e165 : e165 2 = .pointer (some ⟨g2, 0, none⟩) := (congrFun qe165 2).trans s2_e164
  have s4_e165 : e165 4 = .pointer (some ⟨g4, 0, none⟩) := (congrFun qe165 4).trans s4_e164
  have s12_e165 : e165 12 = .bool (!r3.2) := congrFun qe165 12
  clear qe165
  refine wcondP (p0 := [1, 1, 0, 1, 0]) (p1 := [1, 1, 0, 1, 1]) (t := (!r3.2)) rfl rfl rfl (by decide) s12_e165 (fun hb => ?_) (fun hb => ?_)
  · replace h := br_t hb h
    refine wseqP (p0 := [1, 1, 0, 1, 0, 0]) (p1 := [1, 1, 0, 1, 0, 1]) rfl rfl rfl ?_
    refine wregionT point_Neg.o4 (.tp 0 (.ef 1 (.tp 2 (.done)))) [1] rfl rfl (by kernel_rfl) (by kernel_rfl) ?_
    refine k_build (v := .agg (ints .u8 (List.replicate 32 (0 : Int))).toArray) rfl (fun _ => by kernel_rfl) ?_
    refine k_storeA (v := .agg (ints .u8 (List.replicate 32 (0 : Int))).toArray) 1 0 (r := ⟨g2, 0, ints .u8 (List.replicate 32 (0 : Int))⟩) (ints .u8 (List.replicate 32 (0 : Int))) (ints .u8 (List.replicate 32 (0 : Int))) rfl (n := 32) (by kernel_rfl) s2_e165 rfl rfl ((ints_length _ _).trans List.length_replicate) (ints_one _ _) hp rfl rfl rfl (Nat.le_of_eq ((Nat.zero_add _).trans ((ints_length _ _).trans List.length_replicate).symm)) (setMany_all _ _ (((ints_length _ _).trans List.length_replicate).trans ((ints_length _ _).trans List.length_replicate).symm)) (by decide) ?_; intro w hp
    refine k_assign (v := .int .i64 2) rfl rfl ?_
    refine k_end ?_; intro e166 qe166
    have s2_e166 : e166 2 = .pointer (some ⟨g2, 0, none⟩) := (congrFun qe166 2).trans s2_e165
    have s3_e166 : e166 3 = .int .i64 2 := congrFun qe166 3
    clear qe166
    refine wret rfl ?_
    have hr : r = ((List.replicate 32 (0 : Int)), 2) := (Option.some.inj h).symm
    show RetP _ _ _ _ _
    rw [hr]
    exact ret_i [.agg (ints .u8 (List.replicate 32 (0 : Int))).toArray, .int .i64 2] (res_cell s2_e166 (loadVar_agg (by kernel_rfl) (by kernel_rfl) ((ints_length _ _).trans List.length_replicate) (hp.get (j := 1) rfl) rfl rfl rfl) (res_tmp s3_e166 res_nil)) ⟨rfl, List.length_replicate, hp.none⟩
  · replace h := br_f hb h
    refine wskip rfl ?_
    refine wseqP (p0 := [1, 1, 1, 0]) (p1 := [1, 1, 1, 1]) rfl rfl rfl ?_
    refine wregionT point_Neg.o5 (.tk 0 (.ef 1 (.ef 2 (.ef 3 (.tp 4 (.done)))))) [3] rfl rfl (by kernel_rfl) (by kernel_rfl) ?_
    refine k_loadA (n := 20) (xs := ints .u64 r3.1) 0 rfl (by kernel_rfl) (by kernel_rfl) s4_e165 (hp.get (j := 2) rfl) rfl rfl ((ints_length _ _).trans lr30) (fun m v hm => by rw [Nat.zero_add]; exact hm) ?_
    obtain ⟨r5, qr5, h⟩ := bd_e h
    refine k_call [.agg (ints .u64 r3.1).toArray] rfl (by kernel_rfl) (args1 rfl) (point_Point_Minus_ok r3.1 lr30 _ (hp.toR (fun _ h => by cases h)) qr5) ?_
    rintro _ w' ⟨_, rfl, rfl, lr50, hpc⟩
    refine ⟨_, rfl, .inr (.of_below hpc.chg.to_below), ?_⟩; have hp := hp.below hpc.chg.to_below; clear hpc
    obtain ⟨r6, qr6, h⟩ := bd_e h
    refine k_call [.agg (ints .u64 r5).toArray] rfl (by kernel_rfl) (args1 rfl) (point_Point_Bytes_ok k r5 lr50 _ (hp.toR (fun _ h => by cases h)) qr6) ?_
    rintro _ w' ⟨_, rfl, rfl, lr60, hpc⟩
    refine ⟨_, rfl, .inr (.of_below hpc.chg.to_below), ?_⟩; have hp := hp.below hpc.chg.to_below; clear hpc
    refine k_storeA (v := .agg (ints .u8 r6).toArray) 1 0 (r := ⟨g2, 0, ints .u8 (List.replicate 32 (0 : Int))⟩) (ints .u8 r6) (ints .u8 r6) rfl (n := 32) (by kernel_rfl) s2_e165 rfl rfl ((ints_length _ _).trans lr60) (ints_one _ _) hp rfl rfl rfl (Nat.le_of_eq ((Nat.zero_add _).trans ((ints_length _ _).trans List.length_replicate).symm)) (setMany_all _ _ (((ints_length _ _).trans lr60).trans ((ints_length _ _).trans List.length_replicate).symm)) (by decide) ?_; intro w hp
    refine k_assign (v := .int .i64 0) rfl rfl ?_
    refine k_end ?_; intro e167 qe167
    have s2_e167 : e167 2 = .pointer (some ⟨g2, 0, none⟩) := (congrFun qe167 2).trans s2_e165
    have s3_e167 : e167 3 = .int .i64 0 := congrFun qe167 3
    clear qe167
    refine wret rfl ?_
    have hr : r = (r6, 0) := (Option.some.inj h).symm
    show RetP _ _ _ _ _
    rw [hr]
    exact ret_i [.agg (ints .u8 r6).toArray, .int .i64 0] (res_cell s2_e167 (loadVar_agg (by kernel_rfl) (by kernel_rfl) ((ints_length _ _).trans lr60) (hp.get (j := 1) rfl) rfl rfl rfl) (res_tmp s3_e167 res_nil)) ⟨rfl, lr60, hp.none⟩
/-! 15 postilion/point.Check -/
noncomputable def point_Check.o1 : Array Oper := opsC (at_ (fbody Try.f15) [0])
noncomputable def point_Check.o2 : Array Oper := opsC (at_ (fbody Try.f15) [1, 0, 0])
noncomputable def point_Check.o3 : Array Oper := opsC (at_ (fbody Try.f15) [1, 0, 1, 0])
noncomputable def point_Check.o4 : Array Oper := opsC (at_ (fbody Try.f15) [1, 0, 1, 1, 0, 0])
noncomputable def point_Check.o5 : Array Oper := opsC (at_ (fbody Try.f15) [1, 1, 0])
theorem point_Check_ok (k : Nat) (a0 : List Int) (la0 : a0.length = 32) (w0 : World) (hp : Hp w0 [] w0 [] []) {r : Int} (h : point_Check.f k a0 = some r) :
    Calls Try.prog 15 [.agg (ints .u8 a0).toArray].toArray w0 fun x w' => ∃ v, x = .returned v ∧ v = .int .i64 r ∧ Hp w0 [] w' [] [] := by
  refine calls_inP Try.func15 rfl (Nat.le_of_ble_eq_true (by kernel_rfl)) (by kernel_rfl) ?_
  intro e0 qe0
  have s0_e0 : e0 0 = .agg (ints .u8 a0).toArray := congrFun qe0 0
  clear qe0
  unfold point_Check.f at h
  refine wseqP (p0 := [0]) (p1 := [1]) rfl rfl rfl ?_
  refine wregionT point_Check.o1 (.ef 0 (.tp 1 (.done))) [] rfl rfl (by kernel_rfl) (by kernel_rfl) ?_
  refine k_box (v := .agg (ints .u8 a0).toArray) (ints .u8 a0) rfl s0_e0 rfl hp ?_
  intro g1 w hbg1 hp
  refine k_assign (v := .int .i64 0) rfl rfl ?_
  refine k_end ?_; intro e168 qe168
  have s1_e168 : e168 1 = .pointer (some ⟨g1, 0, none⟩) := congrFun qe168 1
  clear qe168
  refine wseqP (p0 := [1, 0]) (p1 := [1, 1]) rfl rfl rfl ?_
  refine wseqP (p0 := [1, 0, 0]) (p1 := [1, 0, 1]) rfl rfl rfl ?_
  refine wregionT point_Check.o2 (.tk 0 (.ef 1 (.tp 2 (.tp 3 (.tp 4 (.ef 5 (.ef 6 (.tp 7 (.done))))))))) [6] rfl rfl (by kernel_rfl) (by kernel_rfl) ?_
  refine k_loadA (n := 32) (xs := ints .u8 a0) 0 rfl (by kernel_rfl) (by kernel_rfl) s1_e168 (hp.get (j := 0) rfl) rfl rfl ((ints_length _ _).trans la0) (fun m v hm => by rw [Nat.zero_add]; exact hm) ?_
  obtain ⟨r2, qr2, h⟩ := bd_e h
  refine k_call [.agg (ints .u8 a0).toArray] rfl (by kernel_rfl) (args1 rfl) (point_Of_ok k a0 la0 _ (hp.toR (fun _ h => by cases h)) qr2) ?_
  rintro _ w' ⟨_, rfl, rfl, lr20, hpc⟩
  refine ⟨_, rfl, .inr (.of_below hpc.chg.to_below), ?_⟩; have hp := hp.below hpc.chg.to_below; clear hpc
  refine k_move (v := .tuple #[.agg (ints .u64 r2.1).toArray, .bool r2.2]) rfl rfl ?_
  refine k_extract (v := .agg (ints .u64 r2.1).toArray) rfl rfl rfl ?_
  refine k_extract (v := .bool r2.2) rfl rfl rfl ?_
  refine k_alloc (ints .u64 (List.replicate 20 (0 : Int))) rfl (by kernel_rfl) hp ?_
  intro g3 w hbg3 hp
  refine k_storeA (v := .agg (ints .u64 r2.1).toArray) 1 0 (r := ⟨g3, 0, ints .u64 (List.replicate 20 (0 : Int))⟩) (ints .u64 r2.1) (ints .u64 r2.1) rfl (n := 20) (by kernel_rfl) rfl rfl rfl ((ints_length _ _).trans lr20) (ints_one _ _) hp rfl rfl rfl (Nat.le_of_eq ((Nat.zero_add _).trans ((ints_length _ _).trans List.length_replicate).symm)) (setMany_all _ _ (((ints_length _ _).trans lr20).trans ((ints_length _ _).trans List.length_replicate).symm)) (by decide) ?_; intro w hp
  refine k_assign (v := .bool r2.2) rfl rfl ?_
  refine k_end ?_; intro e169 qe169
  have s4_e169 : e169 4 = .bool r2.2 := congrFun qe169 4
  clear qe169
  refine wseqP (p0 := [1, 0, 1, 0]) (p1 := [1, 0, 1, 1]) rfl rfl rfl ?_
  refine wregionT point_Check.o3 (.tp 0 (.tp 1 (.done))) [] rfl rfl (by kernel_rfl) (by kernel_rfl) ?_
  refine k_move (v := .bool r2.2) rfl s4_e169 ?_
  refine k_not (b := r2.2) rfl rfl ?_
  refine k_end ?_; intro e170 qe170
  have s11_e170 : e170 11 = .bool (!r2.2) := congrFun qe170 11
  clear qe170
  refine wcondP (p0 := [1, 0, 1, 1, 0]) (p1 := [1, 0, 1, 1, 1]) (t := (!r2.2)) rfl rfl rfl (by decide) s11_e170 (fun hb => ?_) (fun hb => ?_)
  · replace h := br_t hb h
    refine wseqP (p0 := [1, 0, 1, 1, 0, 0]) (p1 := [1, 0, 1, 1, 0, 1]) rfl rfl rfl ?_
    refine wregionT point_Check.o4 (.tp 0 (.done)) [] rfl rfl (by kernel_rfl) (by kernel_rfl) ?_
    refine k_assign (v := .int .i64 2) rfl rfl ?_
    refine k_end ?_; intro e171 qe171
    have s2_e171 : e171 2 = .int .i64 2 := congrFun qe171 2
    clear qe171
    refine wret rfl ?_
    have hr : r = 2 := (Option.some.inj h).symm
    show RetP _ _ _ _ _
    rw [hr]
    exact ret_i [.int .i64 2] (res_tmp s2_e171 res_nil) ⟨rfl, hp.none⟩
  · replace h := br_f hb h
    refine wskip rfl ?_
    refine wseqP (p0 := [1, 1, 0]) (p1 := [1, 1, 1]) rfl rfl rfl ?_
    refine wregionT point_Check.o5 (.tp 0 (.done)) [] rfl rfl (by kernel_rfl) (by kernel_rfl) ?_
    refine k_assign (v := .int .i64 0) rfl rfl ?_
    refine k_end ?_; intro e172 qe172
    have s2_e172 : e172 2 = .int .i64 0 := congrFun qe172 2
    clear qe172
    refine wret rfl ?_
    have hr : r = 0 := (Option.some.inj h).symm
    show RetP _ _ _ _ _
    rw [hr]
    exact ret_i [.int .i64 0] (res_tmp s2_e172 res_nil) ⟨rfl, hp.none⟩
/-! 11 postilion/postilionlaw06.awake -/
noncomputable def postilionlaw06_awake.o1 : Array Oper := opsC (at_ (fbody Try.f11) [0])
noncomputable def postilionlaw06_awake.o2 : Array Oper := opsC (at_ (fbody Try.f11) [1, 0])
noncomputable def postilionlaw06_awake.o3 : Array Oper := opsC (at_ (fbody Try.f11) [1, 1, 0])
theorem postilionlaw06_awake.p1_ok {w0 : World} {Ws : List Wr} {Q : Exit → Env → World → Prop} (k : Nat) (g2 : Nat) (r1 : List Int) (lr10 : r1.length = 32) {r : Bool} (hQ0 : ∀ (e' : Env) (w' : World) (z0 : Bool), e' 0 = .bool z0 → Hp w0 Ws w' [⟨g2, 0, ints .u8 r1⟩] [] → r = (z0) → Q .normal e' w') (e : Env) (w : World) (s1_e : e 1 = .pointer (some ⟨g2, 0, none⟩)) (hp : Hp w0 Ws w [⟨g2, 0, ints .u8 r1⟩] []) (h : postilionlaw06_awake.p1 k r1 = some r) : Wp Try.prog Try.f11.ntmps (at_ (fbody Try.f11) [1, 1, 0]) Q e w := by
  unfold postilionlaw06_awake.p1 at h
  refine wregionT postilionlaw06_awake.o3 (.tp 0 (.tk 1 (.tp 2 (.tp 3 (.tp 4 (.tk 5 (.tp 6 (.tp 7 (.tp 8 (.tk 9 (.ef 10 (.tp 11 (.tp 12 (.tp 13 (.done))))))))))))))) [] rfl rfl (by kernel_rfl) (by kernel_rfl) ?_
  refine k_indexA (n := 32) (s := 1) (j := 0) rfl Try.underlying22 (by kernel_rfl) s1_e rfl (by decide) ?_
  refine k_load (j := 0) (v := .int .u8 (r1.getD 0 0)) rfl (by kernel_rfl) rfl (hp.get (j := 0) rfl) rfl rfl (ints_get (Nat.lt_of_lt_of_eq (m := 32) (by decide) (lr10).symm)) ?_
  refine k_bin (X := .int .u8 (r1.getD 0 0)) (Y := .int .u8 88) rfl rfl rfl rfl ?_
  rcases Bool.eq_false_or_eq_true ((r1.getD 0 0) == 88) with hb | hb
  · replace h := br_t hb h
    refine k_move (v := .bool true) rfl (Eq.trans (b := .bool ((r1.getD 0 0) == 88)) rfl (congrArg Value.bool hb)) ?_
    refine k_indexA (n := 32) (s := 1) (j := 31) rfl Try.underlying22 (by kernel_rfl) s1_e rfl (by decide) ?_
    refine k_load (j := 31) (v := .int .u8 (r1.getD 31 0)) rfl (by kernel_rfl) rfl (hp.get (j := 0) rfl) rfl rfl (ints_get (Nat.lt_of_lt_of_eq (m := 32) (by decide) (lr10).symm)) ?_
    refine k_bin (X := .int .u8 (r1.getD 31 0)) (Y := .int .u8 102) rfl rfl rfl rfl ?_
    refine k_pick (b := true) (v := .bool ((r1.getD 31 0) == 102)) rfl rfl rfl rfl rfl ?_
    rcases Bool.eq_false_or_eq_true ((r1.getD 31 0) == 102) with hb | hb
    · replace h := br_t hb h
      refine k_move (v := .bool true) rfl (Eq.trans (b := .bool ((r1.getD 31 0) == 102)) rfl (congrArg Value.bool hb)) ?_
      refine k_loadA (n := 32) (xs := ints .u8 r1) 0 rfl (by kernel_rfl) (by kernel_rfl) s1_e (hp.get (j := 0) rfl) rfl rfl ((ints_length _ _).trans lr10) (fun m v hm => by rw [Nat.zero_add]; exact hm) ?_
      obtain ⟨r3, qr3, h⟩ := bd_e h
      refine k_call [.agg (ints .u8 r1).toArray] rfl (by kernel_rfl) (args1 rfl) (point_Check_ok k r1 lr10 _ (hp.toR (fun _ h => by cases h)) qr3) ?_
      rintro _ w' ⟨_, rfl, rfl, hpc⟩
      refine ⟨_, rfl, .inr (.of_below hpc.chg.to_below), ?_⟩; have hp := hp.below hpc.chg.to_below; clear hpc
      refine k_bin (X := .int .i64 r3) (Y := .int .i64 0) rfl rfl rfl rfl ?_
      refine k_pick (b := true) (v := .bool (r3 == 0)) rfl rfl rfl rfl rfl ?_
      refine k_assign (v := .bool (r3 == 0)) rfl rfl ?_
      refine k_end ?_; intro e175 qe175
      have s0_e175 : e175 0 = .bool (r3 == 0) := congrFun qe175 0
      clear qe175
      exact hQ0 _ _ (r3 == 0)  s0_e175 (hp.drop (L' := [⟨g2, 0, ints .u8 r1⟩]) (List.Sublist.refl _)) (Option.some.inj h).symm
    · replace h := br_f hb h
      refine k_move (v := .bool false) rfl (Eq.trans (b := .bool ((r1.getD 31 0) == 102)) rfl (congrArg Value.bool hb)) ?_
      refine k_skip_tk rfl ?_
      refine k_skip_ef rfl ?_
      refine k_skip rfl ?_
      refine k_pick (b := false) (v := .bool false) rfl rfl rfl rfl rfl ?_
      refine k_assign (v := .bool false) rfl rfl ?_
      refine k_end ?_; intro e176 qe176
      have s0_e176 : e176 0 = .bool false := congrFun qe176 0
      clear qe176
      exact hQ0 _ _ false  s0_e176 (hp.drop (L' := [⟨g2, 0, ints .u8 r1⟩]) (List.Sublist.refl _)) (Option.some.inj h).symm
  · replace h := br_f hb h
    refine k_move (v := .bool false) rfl (Eq.trans (b := .bool ((r1.getD 0 0) == 88)) rfl (congrArg Value.bool hb)) ?_
    refine k_skip rfl ?_
    refine k_skip_tk rfl ?_
    refine k_skip rfl ?_
    refine k_pick (b := false) (v := .bool false) rfl rfl rfl rfl rfl ?_
    refine k_move (v := .bool false) rfl rfl ?_
    refine k_skip_tk rfl ?_
    refine k_skip_ef rfl ?_
    refine k_skip rfl ?_
    refine k_pick (b := false) (v := .bool false) rfl rfl rfl rfl rfl ?_
    refine k_assign (v := .bool false) rfl rfl ?_
    refine k_end ?_; intro e177 qe177
    have s0_e177 : e177 0 = .bool false := congrFun qe177 0
    clear qe177
    exact hQ0 _ _ false  s0_e177 (hp.drop (L' := [⟨g2, 0, ints .u8 r1⟩]) (List.Sublist.refl _)) (Option.some.inj h).symm
theorem postilionlaw06_awake_ok (k : Nat)  (w0 : World) (hp : Hp w0 [] w0 [] []) {r : Bool} (h : postilionlaw06_awake.f k  = some r) :
    Calls Try.prog 11 [].toArray w0 fun x w' => ∃ v, x = .returned v ∧ v = .bool r ∧ Hp w0 [] w' [] [] := by
  refine calls_inP Try.func11 rfl (Nat.le_of_ble_eq_true (by kernel_rfl)) (by kernel_rfl) ?_
  intro e0 qe0
  clear qe0
  unfold postilionlaw06_awake.f at h
  refine wseqP (p0 := [0]) (p1 := [1]) rfl rfl rfl ?_
  refine wregionT postilionlaw06_awake.o1 (.tp 0 (.done)) [] rfl rfl (by kernel_rfl) (by kernel_rfl) ?_
  refine k_assign (v := .bool false) rfl rfl ?_
  refine k_end ?_; intro e173 qe173
  clear qe173
  refine wseqP (p0 := [1, 0]) (p1 := [1, 1]) rfl rfl rfl ?_
  refine wregionT postilionlaw06_awake.o2 (.ef 0 (.ef 1 (.ef 2 (.done)))) [2] rfl rfl (by kernel_rfl) (by kernel_rfl) ?_
  obtain ⟨r1, qr1, h⟩ := bd_e h
  refine k_call [] rfl (by kernel_rfl) (args0 ) (point_Generator_ok k   _ (hp.toR (fun _ h => by cases h)) qr1) ?_
  rintro _ w' ⟨_, rfl, rfl, lr10, hpc⟩
  refine ⟨_, rfl, .inr (.of_below hpc.chg.to_below), ?_⟩; have hp := hp.below hpc.chg.to_below; clear hpc
  refine k_alloc (ints .u8 (List.replicate 32 (0 : Int))) rfl (by kernel_rfl) hp ?_
  intro g2 w hbg2 hp
  refine k_storeA (v := .agg (ints .u8 r1).toArray) 0 0 (r := ⟨g2, 0, ints .u8 (List.replicate 32 (0 : Int))⟩) (ints .u8 r1) (ints .u8 r1) rfl (n := 32) (by kernel_rfl) rfl rfl rfl ((ints_length _ _).trans lr10) (ints_one _ _) hp rfl rfl rfl (Nat.le_of_eq ((Nat.zero_add _).trans ((ints_length _ _).trans List.length_replicate).symm)) (setMany_all _ _ (((ints_length _ _).trans lr10).trans ((ints_length _ _).trans List.length_replicate).symm)) (by decide) ?_; intro w hp
  refine k_end ?_; intro e174 qe174
  have s1_e174 : e174 1 = .pointer (some ⟨g2, 0, none⟩) := congrFun qe174 1
  clear qe174
  refine wseqP (p0 := [1, 1, 0]) (p1 := [1, 1, 1]) rfl rfl rfl ?_
  obtain ⟨r4, qr4, h⟩ := bd_e h
  refine postilionlaw06_awake.p1_ok k g2 r1 lr10 ?hq0 e174 _ s1_e174 hp qr4
  case hq0 =>
    intro e178 w m5  s0_e178 hp qq
    rw [qq] at h; clear qq
    refine wret rfl ?_
    have hr : r = m5 := (Option.some.inj h).symm
    show RetP _ _ _ _ _
    rw [hr]
    exact ret_i [.bool m5] (res_tmp s0_e178 res_nil) ⟨rfl, hp.none⟩
/-! 58 postilion/point.Origin -/
noncomputable def point_Origin.o1 : Array Oper := opsC (at_ (fbody Try.f58) [0])
noncomputable def point_Origin.o2 : Array Oper := opsC (at_ (fbody Try.f58) [1, 0])
theorem point_Origin_ok  (w0 : World) (hp : Hp w0 [] w0 [] []) {r : List Int} (h : point_Origin.f  = some r) :
    Calls Try.prog 58 [].toArray w0 fun x w' => ∃ v, x = .returned v ∧ v = .agg (ints .u64 r).toArray ∧ r.length = 20 ∧ Hp w0 [] w' [] [] := by
  refine calls_inP Try.func58 rfl (Nat.le_of_ble_eq_true (by kernel_rfl)) (by kernel_rfl) ?_
  intro e0 qe0
  clear qe0
  unfold point_Origin.f at h
  refine wseqP (p0 := [0]) (p1 := [1]) rfl rfl rfl ?_
  refine wregionT point_Origin.o1 (.ef 0 (.done)) [] rfl rfl (by kernel_rfl) (by kernel_rfl) ?_
  refine k_alloc (ints .u64 (List.replicate 20 (0 : Int))) rfl (by kernel_rfl) hp ?_
  intro g1 w hbg1 hp
  refine k_end ?_; intro e179 qe179
  have s0_e179 : e179 0 = .pointer (some ⟨g1, 0, none⟩) := congrFun qe179 0
  clear qe179
  refine wseqP (p0 := [1, 0]) (p1 := [1, 1]) rfl rfl rfl ?_
  refine wregionT point_Origin.o2 (.ef 0 (.ef 1 (.tp 2 (.ef 3 (.done))))) [3] rfl rfl (by kernel_rfl) (by kernel_rfl) ?_
  obtain ⟨r2, qr2, h⟩ := bd_e h
  refine k_call [] rfl (by kernel_rfl) (args0 ) (field_One_ok   _ (hp.toR (fun _ h => by cases h)) qr2) ?_
  rintro _ w' ⟨_, rfl, rfl, lr20, hpc⟩
  refine ⟨_, rfl, .inr (.of_below hpc.chg.to_below), ?_⟩; have hp := hp.below hpc.chg.to_below; clear hpc
  obtain ⟨r3, qr3, h⟩ := bd_e h
  refine k_call [] rfl (by kernel_rfl) (args0 ) (field_One_ok   _ (hp.toR (fun _ h => by cases h)) qr3) ?_
  rintro _ w' ⟨_, rfl, rfl, lr30, hpc⟩
  refine ⟨_, rfl, .inr (.of_below hpc.chg.to_below), ?_⟩; have hp := hp.below hpc.chg.to_below; clear hpc
  refine k_buildP (v := .agg (ints .u64 ((List.replicate 5 (0 : Int)) ++ r2 ++ r3 ++ (List.replicate 5 (0 : Int)))).toArray) [(1, .agg (ints .u64 r2).toArray), (2, .agg (ints .u64 r3).toArray)] rfl (pcons rfl (pcons rfl pnil)) (fun _ => by rw [lst r2 lr20, lst r3 lr30]; kernel_rfl) ?_
  refine k_storeA (v := .agg (ints .u64 ((List.replicate 5 (0 : Int)) ++ r2 ++ r3 ++ (List.replicate 5 (0 : Int)))).toArray) 0 0 (r := ⟨g1, 0, ints .u64 (List.replicate 20 (0 : Int))⟩) (ints .u64 ((List.replicate 5 (0 : Int)) ++ r2 ++ r3 ++ (List.replicate 5 (0 : Int)))) (ints .u64 ((List.replicate 5 (0 : Int)) ++ r2 ++ r3 ++ (List.replicate 5 (0 : Int)))) rfl (n := 20) (by kernel_rfl) s0_e179 rfl rfl ((ints_length _ _).trans (show List.length (((List.replicate 5 (0 : Int)) ++ r2 ++ r3 ++ (List.replicate 5 (0 : Int))) : List Int) = 20 by simp [lr20, lr30])) (ints_one _ _) hp rfl rfl rfl (Nat.le_of_eq ((Nat.zero_add _).trans ((ints_length _ _).trans List.length_replicate).symm)) (setMany_all _ _ (((ints_length _ _).trans (show List.length (((List.replicate 5 (0 : Int)) ++ r2 ++ r3 ++ (List.replicate 5 (0 : Int))) : List Int) = 20 by simp [lr20, lr30])).trans ((ints_length _ _).trans List.length_replicate).symm)) (by decide) ?_; intro w hp
  refine k_end ?_; intro e180 qe180
  have s0_e180 : e180 0 = .pointer (some ⟨g1, 0, none⟩) := (congrFun qe180 0).trans s0_e179
  clear qe180
  obtain ⟨x4, qx4, h⟩ := lt_e h
  have lx4 : x4.length = 20 := (congrArg List.length qx4).trans (show List.length (((List.replicate 5 (0 : Int)) ++ r2 ++ r3 ++ (List.replicate 5 (0 : Int))) : List Int) = 20 by simp [lr20, lr30])
  have hp : Hp w0 [] w [⟨g1, 0, ints .u64 x4⟩] [] := by rw [qx4]; exact hp
  refine wret rfl ?_
  have hr : r = x4 := (Option.some.inj h).symm
  show RetP _ _ _ _ _
  rw [hr]
  exact ret_i [.agg (ints .u64 x4).toArray] (res_cell s0_e180 (loadVar_agg (by kernel_rfl) (by kernel_rfl) ((ints_length _ _).trans lx4) (hp.get (j := 0) rfl) rfl rfl rfl) res_nil) ⟨rfl, lx4, hp.none⟩
/-! 60 postilion/point.twice -/
noncomputable def point_twice.o1 : Array Oper := opsC (at_ (fbody Try.f60) [0])
noncomputable def point_twice.o2 : Array Oper := opsC (at_ (fbody Try.f60) [1, 0])
theorem point_twice_ok  (w0 : World) (hp : Hp w0 [] w0 [] []) {r : List Int} (h : point_twice.f  = some r) :
    Calls Try.prog 60 [].toArray w0 fun x w' => ∃ v, x = .returned v ∧ v = .agg (ints .u64 r).toArray ∧ r.length = 5 ∧ Hp w0 [] w' [] [] := by
  refine calls_inP Try.func60 rfl (Nat.le_of_ble_eq_true (by kernel_rfl)) (by kernel_rfl) ?_
  intro e0 qe0
  clear qe0
  unfold point_twice.f at h
  refine wseqP (p0 := [0]) (p1 := [1]) rfl rfl rfl ?_
  refine wregionT point_twice.o1 (.ef 0 (.done)) [] rfl rfl (by kernel_rfl) (by kernel_rfl) ?_
  refine k_alloc (ints .u64 (List.replicate 5 (0 : Int))) rfl (by kernel_rfl) hp ?_
  intro g1 w hbg1 hp
  refine k_end ?_; intro e181 qe181
  have s0_e181 : e181 0 = .pointer (some ⟨g1, 0, none⟩) := congrFun qe181 0
  clear qe181
  refine wseqP (p0 := [1, 0]) (p1 := [1, 1]) rfl rfl rfl ?_
  refine wregionT point_twice.o2 (.tp 0 (.ef 1 (.done))) [1] rfl rfl (by kernel_rfl) (by kernel_rfl) ?_
  refine k_build (v := .agg (ints .u64 [1859910466990425, 932731440258426, 1072319116312658, 1815898335770999, 633789495995903]).toArray) rfl (fun _ => by kernel_rfl) ?_
  refine k_storeA (v := .agg (ints .u64 [1859910466990425, 932731440258426, 1072319116312658, 1815898335770999, 633789495995903]).toArray) 0 0 (r := ⟨g1, 0, ints .u64 (List.replicate 5 (0 : Int))⟩) (ints .u64 [1859910466990425, 932731440258426, 1072319116312658, 1815898335770999, 633789495995903]) (ints .u64 [1859910466990425, 932731440258426, 1072319116312658, 1815898335770999, 633789495995903]) rfl (n := 5) (by kernel_rfl) s0_e181 rfl rfl ((ints_length _ _).trans (rfl : List.length ([1859910466990425, 932731440258426, 1072319116312658, 1815898335770999, 633789495995903] : List Int) = 5)) (ints_one _ _) hp rfl rfl rfl (Nat.le_of_eq ((Nat.zero_add _).trans ((ints_length _ _).trans List.length_replicate).symm)) (setMany_all _ _ (((ints_length _ _).trans (rfl : List.length ([1859910466990425, 932731440258426, 1072319116312658, 1815898335770999, 633789495995903] : List Int) = 5)).trans ((ints_length _ _).trans List.length_replicate).symm)) (by decide) ?_; intro w hp
  refine k_end ?_; intro e182 qe182
  have s0_e182 : e182 0 = .pointer (some ⟨g1, 0, none⟩) := (congrFun qe182 0).trans s0_e181
  clear qe182
  obtain ⟨x2, qx2, h⟩ := lt_e h
  have lx2 : x2.length = 5 := (congrArg List.length qx2).trans (rfl : List.length ([1859910466990425, 932731440258426, 1072319116312658, 1815898335770999, 633789495995903] : List Int) = 5)
  have hp : Hp w0 [] w [⟨g1, 0, ints .u64 x2⟩] [] := by rw [qx2]; exact hp
  refine wret rfl ?_
  have hr : r = x2 := (Option.some.inj h).symm
  show RetP _ _ _ _ _
  rw [hr]
  exact ret_i [.agg (ints .u64 x2).toArray] (res_cell s0_e182 (loadVar_agg (by kernel_rfl) (by kernel_rfl) ((ints_length _ _).trans lx2) (hp.get (j := 0) rfl) rfl rfl rfl) res_nil) ⟨rfl, lx2, hp.none⟩
/-! 35 (postilion/point.Point).Plus -/
noncomputable def point_Point_Plus.o1 : Array Oper := opsC (at_ (fbody Try.f35) [0])
noncomputable def point_Point_Plus.o2 : Array Oper := opsC (at_ (fbody Try.f35) [1, 0])
noncomputable def point_Point_Plus.o3 : Array Oper := opsC (at_ (fbody Try.f35) [1, 1, 0])
noncomputable def point_Point_Plus.o4 : Array Oper := opsC (at_ (fbody Try.f35) [1, 1, 1, 0])
noncomputable def point_Point_Plus.o5 : Array Oper := opsC (at_ (fbody Try.f35) [1, 1, 1, 1, 0])
noncomputable def point_Point_Plus.o6 : Array Oper := opsC (at_ (fbody Try.f35) [1, 1, 1, 1, 1, 0])
noncomputable def point_Point_Plus.o7 : Array Oper := opsC (at_ (fbody Try.f35) [1, 1, 1, 1, 1, 1, 0])
noncomputable def point_Point_Plus.o8 : Array Oper := opsC (at_ (fbody Try.f35) [1, 1, 1, 1, 1, 1, 1, 0])
set_option maxHeartbeats 4000000 in
theorem point_Point_Plus_ok (k : Nat) (a0 : List Int) (a1 : List Int) (la0 : a0.length = 20) (la1 : a1.length = 20) (w0 : World) (hp : Hp w0 [] w0 [] []) {r : List Int} (h : point_Point_Plus.f k a0 a1 = some r) :
    Calls Try.prog 35 [.agg (ints .u64 a0).toArray, .agg (ints .u64 a1).toArray].toArray w0 fun x w' => ∃ v, x = .returned v ∧ v = .agg (ints .u64 r).toArray ∧ r.length = 20 ∧ Hp w0 [] w' [] [] := by
  refine calls_inP Try.func35 rfl (Nat.le_of_ble_eq_true (by kernel_rfl)) (by kernel_rfl) ?_
  intro e0 qe0
  have s0_e0 : e0 0 = .agg (ints .u64 a0).toArray := congrFun qe0 0
  have s1_e0 : e0 1 = .agg (ints .u64 a1).toArray := congrFun qe0 1
  clear qe0
  unfold point_Point_Plus.f at h
  refine wseqP (p0 := [0]) (p1 := [1]) rfl rfl rfl ?_
  refine wregionT point_Point_Plus.o1 (.ef 0 (.ef 1 (.ef 2 (.done)))) [] rfl rfl (by kernel_rfl) (by kernel_rfl) ?_
  refine k_box (v := .agg (ints .u64 a0).toArray) (ints .u64 a0) rfl s0_e0 rfl hp ?_
  intro g1 w hbg1 hp
  refine k_box (v := .agg (ints .u64 a1).toArray) (ints .u64 a1) rfl s1_e0 rfl hp ?_
  intro g2 w hbg2 hp
  refine k_alloc (ints .u64 (List.replicate 20 (0 : Int))) rfl (by kernel_rfl) hp ?_
  intro g3 w hbg3 hp
  refine k_end ?_; intro e183 qe183
  have s2_e183 : e183 2 = .pointer (some ⟨g1, 0, none⟩) := congrFun qe183 2
  have s3_e183 : e183 3 = .pointer (some ⟨g2, 0, none⟩) := congrFun qe183 3
  have s4_e183 : e183 4 = .pointer (some ⟨g3, 0, none⟩) := congrFun qe183 4
  clear qe183
  refine wseqP (p0 := [1, 0]) (p1 := [1, 1]) rfl rfl rfl ?_
  obtain ⟨r4, qr4, h⟩ := bd_e h
  obtain ⟨r5, qr5, h⟩ := bd_e h
  obtain ⟨r6, qr6, h⟩ := bd_e h
  refine wcut (fun e184 w2 => ∃ g7 : Nat, (((r6.length = 5 ∧ e184 2 = .pointer (some ⟨g1, 0, none⟩)) ∧ e184 3 = .pointer (some ⟨g2, 0, none⟩)) ∧ (e184 4 = .pointer (some ⟨g3, 0, none⟩) ∧ e184 5 = .pointer (some ⟨g7, 0, none⟩))) ∧ Hp w0 [] w2 [⟨g1, 0, ints .u64 a0⟩, ⟨g2, 0, ints .u64 a1⟩, ⟨g3, 0, ints .u64 (List.replicate 20 (0 : Int))⟩, ⟨g7, 0, ints .u64 r6⟩] []) ?_ ?_
  rotate_left
  · refine wregionM point_Point_Plus.o2 (.tp 0 (.tk 1 (.tp 2 (.tk 3 (.tp 5 (.tk 6 (.tp 7 (.tk 8 (.rest 495 5))))))))) [12] [(0, 0, 8191), (1, 1, 0), (0, 0, 8191), (4, 4, 0), (10, 8191, 8191), (0, 0, 8191), (32, 32, 0), (0, 0, 8191), (128, 128, 0), (336, 8191, 8191), (528, 8191, 8191), (0, 8191, 8191), (4095, 8191, 8191)] rfl rfl (by kernel_rfl) (by kernel_rfl) (Nat.le_of_ble_eq_true (by kernel_rfl)) (by kernel_rfl) (by kernel_rfl) (by kernel_rfl) ?_
    have hp := hp.drew
    refine k_fieldAddr (n := 5) rfl (by kernel_rfl) s2_e183 ?_
    refine k_loadA (n := 5) (xs := ints .u64 ((a0.drop 5).take 5)) 5 rfl (by kernel_rfl) (by kernel_rfl) rfl (hp.get (j := 0) rfl) rfl rfl ((ints_length _ _).trans (show List.length ((a0.drop 5).take 5) = 5 from part_len la0 (by decide))) (fun m v hm => part_get hm) ?_
    refine k_fieldAddr (n := 0) rfl (by kernel_rfl) s2_e183 ?_
    refine k_loadA (n := 5) (xs := ints .u64 ((a0.drop 0).take 5)) 0 rfl (by kernel_rfl) (by kernel_rfl) rfl (hp.get (j := 0) rfl) rfl rfl ((ints_length _ _).trans (show List.length ((a0.drop 0).take 5) = 5 from part_len la0 (by decide))) (fun m v hm => part_get hm) ?_
    refine k_fieldAddr (n := 5) rfl (by kernel_rfl) s3_e183 ?_
    refine k_loadA (n := 5) (xs := ints .u64 ((a1.drop 5).take 5)) 5 rfl (by kernel_rfl) (by kernel_rfl) rfl (hp.get (j := 1) rfl) rfl rfl ((ints_length _ _).trans (show List.length ((a1.drop 5).take 5) = 5 from part_len la1 (by decide))) (fun m v hm => part_get hm) ?_
    refine k_fieldAddr (n := 0) rfl (by kernel_rfl) s3_e183 ?_
    refine k_loadA (n := 5) (xs := ints .u64 ((a1.drop 0).take 5)) 0 rfl (by kernel_rfl) (by kernel_rfl) rfl (hp.get (j := 1) rfl) rfl rfl ((ints_length _ _).trans (show List.length ((a1.drop 0).take 5) = 5 from part_len la1 (by decide))) (fun m v hm => part_get hm) ?_
    refine k_rest [4, 9, 10, 11, 12] (fun L e w => ∃ g7 : Nat, ∃ c_g7_0 : List Int, (((((L 4 = true → r4.length = 5) ∧ (L 9 = true → r5.length = 5)) ∧ (L 10 = true → r6.length = 5)) ∧ (((((e 2 = .pointer (some ⟨g1, 0, none⟩) ∧ e 3 = .pointer (some ⟨g2, 0, none⟩)) ∧ (e 4 = .pointer (some ⟨g3, 0, none⟩) ∧ e 14 = .agg (ints .u64 ((a0.drop 5).take 5)).toArray)) ∧ ((e 16 = .agg (ints .u64 ((a0.drop 0).take 5)).toArray ∧ e 19 = .agg (ints .u64 ((a1.drop 5).take 5)).toArray) ∧ e 21 = .agg (ints .u64 ((a1.drop 0).take 5)).toArray)) ∧ (L 4 = true → e 17 = .agg (ints .u64 r4).toArray)) ∧ (L 9 = true → e 22 = .agg (ints .u64 r5).toArray))) ∧ ((((L 10 = true → e 23 = .agg (ints .u64 r6).toArray) ∧ (L 11 = true → e 5 = .pointer (some ⟨g7, 0, none⟩))) ∧ (L 11 = false → c_g7_0 = ([] : List Int))) ∧ ((L 12 = false → L 11 = true → c_g7_0 = (List.replicate 5 (0 : Int))) ∧ (L 12 = true → c_g7_0 = r6)))) ∧ Hp w0 [] w [⟨g1, 0, ints .u64 a0⟩, ⟨g2, 0, ints .u64 a1⟩, ⟨g3, 0, ints .u64 (List.replicate 20 (0 : Int))⟩, ⟨g7, 0, ints .u64 c_g7_0⟩] []) (by kernel_rfl) (by kernel_rfl) ?_ ?_ ?_
    have hp := hp.free1 0 0
    · exact ⟨0, ([] : List Int), ⟨⟨⟨⟨(fun h => absurd h (by decide)), (fun h => absurd h (by decide))⟩, (fun h => absurd h (by decide))⟩, ⟨⟨⟨⟨⟨s2_e183, s3_e183⟩, ⟨s4_e183, rfl⟩⟩, ⟨⟨rfl, rfl⟩, rfl⟩⟩, (fun h => absurd h (by decide))⟩, (fun h => absurd h (by decide))⟩⟩, ⟨⟨⟨(fun h => absurd h (by decide)), (fun h => absurd h (by decide))⟩, (fun _ => rfl)⟩, ⟨(fun _ h => absurd h (by decide)), (fun h => absurd h (by decide))⟩⟩⟩, hp⟩
    · rintro L e w hall ⟨g7, c_g7_0, hF, hp⟩
      have qc_g7_0 := hF.2.2.2 (hall 12 rfl)
      rw [qc_g7_0] at hp
      exact onlyN_i ⟨g7, ⟨⟨⟨(hF.1.1.2 (hall 10 rfl)), hF.1.2.1.1.1.1.1⟩, hF.1.2.1.1.1.1.2⟩, ⟨hF.1.2.1.1.1.2.1, (hF.2.1.1.2 (hall 11 rfl))⟩⟩, hp⟩
    refine allU_cons ?_ ?_
    · rintro L e w hLi hb hcl ⟨g7, c_g7_0, hF, hp⟩
      refine k_call [.agg (ints .u64 ((a0.drop 5).take 5)).toArray, .agg (ints .u64 ((a0.drop 0).take 5)).toArray] rfl (by kernel_rfl) (args2 hF.1.2.1.1.1.2.2 hF.1.2.1.1.2.1.1) (field_Element_Minus_ok ((a0.drop 5).take 5) ((a0.drop 0).take 5) (show List.length ((a0.drop 5).take 5) = 5 from part_len la0 (by decide)) (show List.length ((a0.drop 0).take 5) = 5 from part_len la0 (by decide)) _ (hp.toR (fun _ h => by cases h)) qr4) ?_
      rintro _ w' ⟨_, rfl, rfl, lr40, hpc⟩
      refine ⟨_, rfl, .inr (.of_below hpc.chg.to_below), ?_⟩; have hp := hp.below hpc.chg.to_below; clear hpc
      exact k_done ⟨g7, c_g7_0, ⟨⟨⟨⟨(fun _ => lr40), hF.1.1.1.2⟩, hF.1.1.2⟩, ⟨⟨hF.1.2.1.1, (fun _ => rfl)⟩, hF.1.2.2⟩⟩, hF.2⟩, hp⟩
    refine allU_cons ?_ ?_
    · rintro L e w hLi hb hcl ⟨g7, c_g7_0, hF, hp⟩
      refine k_call [.agg (ints .u64 ((a1.drop 5).take 5)).toArray, .agg (ints .u64 ((a1.drop 0).take 5)).toArray] rfl (by kernel_rfl) (args2 hF.1.2.1.1.2.1.2 hF.1.2.1.1.2.2) (field_Element_Minus_ok ((a1.drop 5).take 5) ((a1.drop 0).take 5) (show List.length ((a1.drop 5).take 5) = 5 from part_len la1 (by decide)) (show List.length ((a1.drop 0).take 5) = 5 from part_len la1 (by decide)) _ (hp.toR (fun _ h => by cases h)) qr5) ?_
      rintro _ w' ⟨_, rfl, rfl, lr50, hpc⟩
      refine ⟨_, rfl, .inr (.of_below hpc.chg.to_below), ?_⟩; have hp := hp.below hpc.chg.to_below; clear hpc
      exact k_done ⟨g7, c_g7_0, ⟨⟨⟨⟨hF.1.1.1.1, (fun _ => lr50)⟩, hF.1.1.2⟩, ⟨hF.1.2.1, (fun _ => rfl)⟩⟩, hF.2⟩, hp⟩
    refine allU_cons ?_ ?_
    · rintro L e w hLi hb hcl ⟨g7, c_g7_0, hF, hp⟩
      have hL4 := hb 4 (by kernel_rfl)
      have hL9 := hb 9 (by kernel_rfl)
      have lr40 := hF.1.1.1.1 hL4
      have lr50 := hF.1.1.1.2 hL9
      refine k_call [.agg (ints .u64 r4).toArray, .agg (ints .u64 r5).toArray] rfl (by kernel_rfl) (args2 (hF.1.2.1.2 hL4) (hF.1.2.2 hL9)) (field_Element_Times_ok r4 r5 lr40 lr50 _ (hp.toR (fun _ h => by cases h)) qr6) ?_
      rintro _ w' ⟨_, rfl, rfl, lr60, hpc⟩
      refine ⟨_, rfl, .inr (.of_below hpc.chg.to_below), ?_⟩; have hp := hp.below hpc.chg.to_below; clear hpc
      exact k_done ⟨g7, c_g7_0, ⟨⟨⟨hF.1.1.1, (fun _ => lr60)⟩, hF.1.2⟩, ⟨⟨⟨(fun _ => rfl), hF.2.1.1.2⟩, hF.2.1.2⟩, hF.2.2⟩⟩, hp⟩
    refine allU_cons ?_ ?_
    · rintro L e w hLi hb hcl ⟨g7, c_g7_0, hF, hp⟩
      have qc_g7_0 := hF.2.1.2 hLi
      rw [qc_g7_0] at hp
      refine k_allocAt 3 (ints .u64 (List.replicate 5 (0 : Int))) rfl (by kernel_rfl) hp ?_
      intro g7 w hbg7 hp
      exact k_done ⟨g7, (List.replicate 5 (0 : Int)), ⟨hF.1, ⟨⟨⟨hF.2.1.1.1, (fun _ => rfl)⟩, (fun h => nomatch (show true = false from h))⟩, ⟨(fun _ _ => rfl), (fun h => absurd (hLi.symm.trans (hcl 12 11 (by kernel_rfl) h)) (by decide))⟩⟩⟩, hp⟩
    refine allU_cons ?_ allU_nil
    · rintro L e w hLi hb hcl ⟨g7, c_g7_0, hF, hp⟩
      have hL10 := hb 10 (by kernel_rfl)
      have hL11 := hb 11 (by kernel_rfl)
      have lr60 := hF.1.1.2 hL10
      have qc_g7_0 := hF.2.2.1 hLi hL11
      rw [qc_g7_0] at hp
      refine k_storeA (v := .agg (ints .u64 r6).toArray) 3 0 (r := ⟨g7, 0, ints .u64 (List.replicate 5 (0 : Int))⟩) (ints .u64 r6) (ints .u64 r6) rfl (n := 5) (by kernel_rfl) (hF.2.1.1.2 hL11) (hF.2.1.1.1 hL10) rfl ((ints_length _ _).trans lr60) (ints_one _ _) hp rfl rfl rfl (Nat.le_of_eq ((Nat.zero_add _).trans ((ints_length _ _).trans List.length_replicate).symm)) (setMany_all _ _ (((ints_length _ _).trans lr60).trans ((ints_length _ _).trans List.length_replicate).symm)) (by decide) ?_; intro w hp
      exact k_done ⟨g7, r6, ⟨hF.1, ⟨⟨hF.2.1.1, (fun h => absurd (hL11.symm.trans h) (by decide))⟩, ⟨(fun h _ => nomatch (show true = false from h)), (fun _ => rfl)⟩⟩⟩, hp⟩
  rintro e184 w ⟨g7, hF, hp⟩
  have lr60 := hF.1.1.1
  have s2_e184 := hF.1.1.2
  have s3_e184 := hF.1.2
  have s4_e184 := hF.2.1
  have s5_e184 := hF.2.2
  clear hF
  refine wseqP (p0 := [1, 1, 0]) (p1 := [1, 1, 1]) rfl rfl rfl ?_
  obtain ⟨r8, qr8, h⟩ := bd_e h
  obtain ⟨r9, qr9, h⟩ := bd_e h
  obtain ⟨r10, qr10, h⟩ := bd_e h
  refine wcut (fun e185 w2 => ∃ g11 : Nat, (((r10.length = 5 ∧ e185 2 = .pointer (some ⟨g1, 0, none⟩)) ∧ e185 3 = .pointer (some ⟨g2, 0, none⟩)) ∧ ((e185 4 = .pointer (some ⟨g3, 0, none⟩) ∧ e185 5 = .pointer (some ⟨g7, 0, none⟩)) ∧ e185 6 = .pointer (some ⟨g11, 0, none⟩))) ∧ Hp w0 [] w2 [⟨g1, 0, ints .u64 a0⟩, ⟨g2, 0, ints .u64 a1⟩, ⟨g3, 0, ints .u64 (List.replicate 20 (0 : Int))⟩, ⟨g7, 0, ints .u64 r6⟩, ⟨g11, 0, ints .u64 r10⟩] []) ?_ ?_
  rotate_left
  · refine wregionM point_Point_Plus.o3 (.tp 0 (.tk 1 (.tp 2 (.tk 3 (.tp 5 (.tk 6 (.tp 7 (.tk 8 (.rest 495 5))))))))) [12] [(0, 0, 8191), (1, 1, 0), (0, 0, 8191), (4, 4, 0), (10, 8191, 8191), (0, 0, 8191), (32, 32, 0), (0, 0, 8191), (128, 128, 0), (336, 8191, 8191), (528, 8191, 8191), (0, 8191, 8191), (4095, 8191, 8191)] rfl rfl (by kernel_rfl) (by kernel_rfl) (Nat.le_of_ble_eq_true (by kernel_rfl)) (by kernel_rfl) (by kernel_rfl) (by kernel_rfl) ?_
    have hp := hp.drew
    refine k_fieldAddr (n := 5) rfl (by kernel_rfl) s2_e184 ?_
    refine k_loadA (n := 5) (xs := ints .u64 ((a0.drop 5).take 5)) 5 rfl (by kernel_rfl) (by kernel_rfl) rfl (hp.get (j := 0) rfl) rfl rfl ((ints_length _ _).trans (show List.length ((a0.drop 5).take 5) = 5 from part_len la0 (by decide))) (fun m v hm => part_get hm) ?_
    refine k_fieldAddr (n := 0) rfl (by kernel_rfl) s2_e184 ?_
    refine k_loadA (n := 5) (xs := ints .u64 ((a0.drop 0).take 5)) 0 rfl (by kernel_rfl) (by kernel_rfl) rfl (hp.get (j := 0) rfl) rfl rfl ((ints_length _ _).trans (show List.length ((a0.drop 0).take 5) = 5 from part_len la0 (by decide))) (fun m v hm => part_get hm) ?_
    refine k_fieldAddr (n := 5) rfl (by kernel_rfl) s3_e184 ?_
    refine k_loadA (n := 5) (xs := ints .u64 ((a1.drop 5).take 5)) 5 rfl (by kernel_rfl) (by kernel_rfl) rfl (hp.get (j := 1) rfl) rfl rfl ((ints_length _ _).trans (show List.length ((a1.drop 5).take 5) = 5 from part_len la1 (by decide))) (fun m v hm => part_get hm) ?_
    refine k_fieldAddr (n := 0) rfl (by kernel_rfl) s3_e184 ?_
    refine k_loadA (n := 5) (xs := ints .u64 ((a1.drop 0).take 5)) 0 rfl (by kernel_rfl) (by kernel_rfl) rfl (hp.get (j := 1) rfl) rfl rfl ((ints_length _ _).trans (show List.length ((a1.drop 0).take 5) = 5 from part_len la1 (by decide))) (fun m v hm => part_get hm) ?_
    refine k_rest [4, 9, 10, 11, 12] (fun L e w => ∃ g11 : Nat, ∃ c_g11_0 : List Int, (((((L 4 = true → r8.length = 5) ∧ (L 9 = true → r9.length = 5)) ∧ (L 10 = true → r10.length = 5)) ∧ (((((e 2 = .pointer (some ⟨g1, 0, none⟩) ∧ e 3 = .pointer (some ⟨g2, 0, none⟩)) ∧ (e 4 = .pointer (some ⟨g3, 0, none⟩) ∧ e 5 = .pointer (some ⟨g7, 0, none⟩))) ∧ ((e 25 = .agg (ints .u64 ((a0.drop 5).take 5)).toArray ∧ e 27 = .agg (ints .u64 ((a0.drop 0).take 5)).toArray) ∧ (e 30 = .agg (ints .u64 ((a1.drop 5).take 5)).toArray ∧ e 32 = .agg (ints .u64 ((a1.drop 0).take 5)).toArray))) ∧ (L 4 = true → e 28 = .agg (ints .u64 r8).toArray)) ∧ (L 9 = true → e 33 = .agg (ints .u64 r9).toArray))) ∧ ((((L 10 = true → e 34 = .agg (ints .u64 r10).toArray) ∧ (L 11 = true → e 6 = .pointer (some ⟨g11, 0, none⟩))) ∧ (L 11 = false → c_g11_0 = ([] : List Int))) ∧ ((L 12 = false → L 11 = true → c_g11_0 = (List.replicate 5 (0 : Int))) ∧ (L 12 = true → c_g11_0 = r10)))) ∧ Hp w0 [] w [⟨g1, 0, ints .u64 a0⟩, ⟨g2, 0, ints .u64 a1⟩, ⟨g3, 0, ints .u64 (List.replicate 20 (0 : Int))⟩, ⟨g7, 0, ints .u64 r6⟩, ⟨g11, 0, ints .u64 c_g11_0⟩] []) (by kernel_rfl) (by kernel_rfl) ?_ ?_ ?_
    have hp := hp.free1 0 0
    · exact ⟨0, ([] : List Int), ⟨⟨⟨⟨(fun h => absurd h (by decide)), (fun h => absurd h (by decide))⟩, (fun h => absurd h (by decide))⟩, ⟨⟨⟨⟨⟨s2_e184, s3_e184⟩, ⟨s4_e184, s5_e184⟩⟩, ⟨⟨rfl, rfl⟩, ⟨rfl, rfl⟩⟩⟩, (fun h => absurd h (by decide))⟩, (fun h => absurd h (by decide))⟩⟩, ⟨⟨⟨(fun h => absurd h (by decide)), (fun h => absurd h (by decide))⟩, (fun _ => rfl)⟩, ⟨(fun _ h => absurd h (by decide)), (fun h => absurd h (by decide))⟩⟩⟩, hp⟩
    · rintro L e w hall ⟨g11, c_g11_0, hF, hp⟩
      have qc_g11_0 := hF.2.2.2 (hall 12 rfl)
      rw [qc_g11_0] at hp
      exact onlyN_i ⟨g11, ⟨⟨⟨(hF.1.1.2 (hall 10 rfl)), hF.1.2.1.1.1.1.1⟩, hF.1.2.1.1.1.1.2⟩, ⟨⟨hF.1.2.1.1.1.2.1, hF.1.2.1.1.1.2.2⟩, (hF.2.1.1.2 (hall 11 rfl))⟩⟩, hp⟩
    refine allU_cons ?_ ?_
    · rintro L e w hLi hb hcl ⟨g11, c_g11_0, hF, hp⟩
      refine k_call [.agg (ints .u64 ((a0.drop 5).take 5)).toArray, .agg (ints .u64 ((a0.drop 0).take 5)).toArray] rfl (by kernel_rfl) (args2 hF.1.2.1.1.2.1.1 hF.1.2.1.1.2.1.2) (field_Element_Plus_ok k ((a0.drop 5).take 5) ((a0.drop 0).take 5) (show List.length ((a0.drop 5).take 5) = 5 from part_len la0 (by decide)) (show List.length ((a0.drop 0).take 5) = 5 from part_len la0 (by decide)) _ (hp.toR (fun _ h => by cases h)) qr8) ?_
      rintro _ w' ⟨_, rfl, rfl, lr80, hpc⟩
      refine ⟨_, rfl, .inr (.of_below hpc.chg.to_below), ?_⟩; have hp := hp.below hpc.chg.to_below; clear hpc
      exact k_done ⟨g11, c_g11_0, ⟨⟨⟨⟨(fun _ => lr80), hF.1.1.1.2⟩, hF.1.1.2⟩, ⟨⟨hF.1.2.1.1, (fun _ => rfl)⟩, hF.1.2.2⟩⟩, hF.2⟩, hp⟩
    refine allU_cons ?_ ?_
    · rintro L e w hLi hb hcl ⟨g11, c_g11_0, hF, hp⟩
      refine k_call [.agg (ints .u64 ((a1.drop 5).take 5)).toArray, .agg (ints .u64 ((a1.drop 0).take 5)).toArray] rfl (by kernel_rfl) (args2 hF.1.2.1.1.2.2.1 hF.1.2.1.1.2.2.2) (field_Element_Plus_ok k ((a1.drop 5).take 5) ((a1.drop 0).take 5) (show List.length ((a1.drop 5).take 5) = 5 from part_len la1 (by decide)) (show List.length ((a1.drop 0).take 5) = 5 from part_len la1 (by decide)) _ (hp.toR (fun _ h => by cases h)) qr9) ?_
      rintro _ w' ⟨_, rfl, rfl, lr90, hpc⟩
      refine ⟨_, rfl, .inr (.of_below hpc.chg.to_below), ?_⟩; have hp := hp.below hpc.chg.to_below; clear hpc
      exact k_done ⟨g11, c_g11_0, ⟨⟨⟨⟨hF.1.1.1.1, (fun _ => lr90)⟩, hF.1.1.2⟩, ⟨hF.1.2.1, (fun _ => rfl)⟩⟩, hF.2⟩, hp⟩
    refine allU_cons ?_ ?_
    · rintro L e w hLi hb hcl ⟨g11, c_g11_0, hF, hp⟩
      have hL4 := hb 4 (by kernel_rfl)
      have hL9 := hb 9 (by kernel_rfl)
      have lr80 := hF.1.1.1.1 hL4
      have lr90 := hF.1.1.1.2 hL9
      refine k_call [.agg (ints .u64 r8).toArray, .agg (ints .u64 r9).toArray] rfl (by kernel_rfl) (args2 (hF.1.2.1.2 hL4) (hF.1.2.2 hL9)) (field_Element_Times_ok r8 r9 lr80 lr90 _ (hp.toR (fun _ h => by cases h)) qr10) ?_
      rintro _ w' ⟨_, rfl, rfl, lr100, hpc⟩
      refine ⟨_, rfl, .inr (.of_below hpc.chg.to_below), ?_⟩; have hp := hp.below hpc.chg.to_below; clear hpc
      exact k_done ⟨g11, c_g11_0, ⟨⟨⟨hF.1.1.1, (fun _ => lr100)⟩, hF.1.2⟩, ⟨⟨⟨(fun _ => rfl), hF.2.1.1.2⟩, hF.2.1.2⟩, hF.2.2⟩⟩, hp⟩
    refine allU_cons ?_ ?_
    · rintro L e w hLi hb hcl ⟨g11, c_g11_0, hF, hp⟩
      have qc_g11_0 := hF.2.1.2 hLi
      rw [qc_g11_0] at hp
      refine k_allocAt 4 (ints .u64 (List.replicate 5 (0 : Int))) rfl (by kernel_rfl) hp ?_
      intro g11 w hbg11 hp
      exact k_done ⟨g11, (List.replicate 5 (0 : Int)), ⟨hF.1, ⟨⟨⟨hF.2.1.1.1, (fun _ => rfl)⟩, (fun h => nomatch (show true = false from h))⟩, ⟨(fun _ _ => rfl), (fun h => absurd (hLi.symm.trans (hcl 12 11 (by kernel_rfl) h)) (by decide))⟩⟩⟩, hp⟩
    refine allU_cons ?_ allU_nil
    · rintro L e w hLi hb hcl ⟨g11, c_g11_0, hF, hp⟩
      have hL10 := hb 10 (by kernel_rfl)
      have hL11 := hb 11 (by kernel_rfl)
      have lr100 := hF.1.1.2 hL10
      have qc_g11_0 := hF.2.2.1 hLi hL11
      rw [qc_g11_0] at hp
      refine k_storeA (v := .agg (ints .u64 r10).toArray) 4 0 (r := ⟨g11, 0, ints .u64 (List.replicate 5 (0 : Int))⟩) (ints .u64 r10) (ints .u64 r10) rfl (n := 5) (by kernel_rfl) (hF.2.1.1.2 hL11) (hF.2.1.1.1 hL10) rfl ((ints_length _ _).trans lr100) (ints_one _ _) hp rfl rfl rfl (Nat.le_of_eq ((Nat.zero_add _).trans ((ints_length _ _).trans List.length_replicate).symm)) (setMany_all _ _ (((ints_length _ _).trans lr100).trans ((ints_length _ _).trans List.length_replicate).symm)) (by decide) ?_; intro w hp
      exact k_done ⟨g11, r10, ⟨hF.1, ⟨⟨hF.2.1.1, (fun h => absurd (hL11.symm.trans h) (by decide))⟩, ⟨(fun h _ => nomatch (show true = false from h)), (fun _ => rfl)⟩⟩⟩, hp⟩
  rintro e185 w ⟨g11, hF, hp⟩
  have lr100 := hF.1.1.1
  have s2_e185 := hF.1.1.2
  have s3_e185 := hF.1.2
  have s4_e185 := hF.2.1.1
  have s5_e185 := hF.2.1.2
  have s6_e185 := hF.2.2
  clear hF
  refine wseqP (p0 := [1, 1, 1, 0]) (p1 := [1, 1, 1, 1]) rfl rfl rfl ?_
  obtain ⟨r12, qr12, h⟩ := bd_e h
  obtain ⟨r13, qr13, h⟩ := bd_e h
  obtain ⟨r14, qr14, h⟩ := bd_e h
  refine wcut (fun e186 w2 => ∃ g15 : Nat, (((r14.length = 5 ∧ e186 2 = .pointer (some ⟨g1, 0, none⟩)) ∧ (e186 3 = .pointer (some ⟨g2, 0, none⟩) ∧ e186 4 = .pointer (some ⟨g3, 0, none⟩))) ∧ ((e186 5 = .pointer (some ⟨g7, 0, none⟩) ∧ e186 6 = .pointer (some ⟨g11, 0, none⟩)) ∧ e186 7 = .pointer (some ⟨g15, 0, none⟩))) ∧ Hp w0 [] w2 [⟨g1, 0, ints .u64 a0⟩, ⟨g2, 0, ints .u64 a1⟩, ⟨g3, 0, ints .u64 (List.replicate 20 (0 : Int))⟩, ⟨g7, 0, ints .u64 r6⟩, ⟨g11, 0, ints .u64 r10⟩, ⟨g15, 0, ints .u64 r14⟩] []) ?_ ?_
  rotate_left
  · refine wregionM point_Point_Plus.o4 (.tp 0 (.tk 1 (.tp 4 (.tk 5 (.rest 51 5))))) [8] [(0, 0, 511), (1, 1, 0), (0, 511, 511), (6, 511, 511), (0, 0, 511), (16, 16, 0), (40, 511, 511), (0, 511, 511), (255, 511, 511)] rfl rfl (by kernel_rfl) (by kernel_rfl) (Nat.le_of_ble_eq_true (by kernel_rfl)) (by kernel_rfl) (by kernel_rfl) (by kernel_rfl) ?_
    have hp := hp.drew
    refine k_fieldAddr (n := 15) rfl (by kernel_rfl) s2_e185 ?_
    refine k_loadA (n := 5) (xs := ints .u64 ((a0.drop 15).take 5)) 15 rfl (by kernel_rfl) (by kernel_rfl) rfl (hp.get (j := 0) rfl) rfl rfl ((ints_length _ _).trans (show List.length ((a0.drop 15).take 5) = 5 from part_len la0 (by decide))) (fun m v hm => part_get hm) ?_
    refine k_fieldAddr (n := 15) rfl (by kernel_rfl) s3_e185 ?_
    refine k_loadA (n := 5) (xs := ints .u64 ((a1.drop 15).take 5)) 15 rfl (by kernel_rfl) (by kernel_rfl) rfl (hp.get (j := 1) rfl) rfl rfl ((ints_length _ _).trans (show List.length ((a1.drop 15).take 5) = 5 from part_len la1 (by decide))) (fun m v hm => part_get hm) ?_
    refine k_rest [2, 3, 6, 7, 8] (fun L e w => ∃ g15 : Nat, ∃ c_g15_0 : List Int, (((((L 2 = true → r12.length = 5) ∧ (L 3 = true → r13.length = 5)) ∧ (L 6 = true → r14.length = 5)) ∧ (((((e 2 = .pointer (some ⟨g1, 0, none⟩) ∧ e 3 = .pointer (some ⟨g2, 0, none⟩)) ∧ (e 4 = .pointer (some ⟨g3, 0, none⟩) ∧ e 5 = .pointer (some ⟨g7, 0, none⟩))) ∧ ((e 6 = .pointer (some ⟨g11, 0, none⟩) ∧ e 36 = .agg (ints .u64 ((a0.drop 15).take 5)).toArray) ∧ e 40 = .agg (ints .u64 ((a1.drop 15).take 5)).toArray)) ∧ (L 2 = true → e 37 = .agg (ints .u64 r12).toArray)) ∧ (L 3 = true → e 38 = .agg (ints .u64 r13).toArray))) ∧ ((((L 6 = true → e 41 = .agg (ints .u64 r14).toArray) ∧ (L 7 = true → e 7 = .pointer (some ⟨g15, 0, none⟩))) ∧ (L 7 = false → c_g15_0 = ([] : List Int))) ∧ ((L 8 = false → L 7 = true → c_g15_0 = (List.replicate 5 (0 : Int))) ∧ (L 8 = true → c_g15_0 = r14)))) ∧ Hp w0 [] w [⟨g1, 0, ints .u64 a0⟩, ⟨g2, 0, ints .u64 a1⟩, ⟨g3, 0, ints .u64 (List.replicate 20 (0 : Int))⟩, ⟨g7, 0, ints .u64 r6⟩, ⟨g11, 0, ints .u64 r10⟩, ⟨g15, 0, ints .u64 c_g15_0⟩] []) (by kernel_rfl) (by kernel_rfl) ?_ ?_ ?_
    have hp := hp.free1 0 0
    · exact ⟨0, ([] : List Int), ⟨⟨⟨⟨(fun h => absurd h (by decide)), (fun h => absurd h (by decide))⟩, (fun h => absurd h (by decide))⟩, ⟨⟨⟨⟨⟨s2_e185, s3_e185⟩, ⟨s4_e185, s5_e185⟩⟩, ⟨⟨s6_e185, rfl⟩, rfl⟩⟩, (fun h => absurd h (by decide))⟩, (fun h => absurd h (by decide))⟩⟩, ⟨⟨⟨(fun h => absurd h (by decide)), (fun h => absurd h (by decide))⟩, (fun _ => rfl)⟩, ⟨(fun _ h => absurd h (by decide)), (fun h => absurd h (by decide))⟩⟩⟩, hp⟩
    · rintro L e w hall ⟨g15, c_g15_0, hF, hp⟩
      have qc_g15_0 := hF.2.2.2 (hall 8 rfl)
      rw [qc_g15_0] at hp
      exact onlyN_i ⟨g15, ⟨⟨⟨(hF.1.1.2 (hall 6 rfl)), hF.1.2.1.1.1.1.1⟩, ⟨hF.1.2.1.1.1.1.2, hF.1.2.1.1.1.2.1⟩⟩, ⟨⟨hF.1.2.1.1.1.2.2, hF.1.2.1.1.2.1.1⟩, (hF.2.1.1.2 (hall 7 rfl))⟩⟩, hp⟩
    refine allU_cons ?_ ?_
    · rintro L e w hLi hb hcl ⟨g15, c_g15_0, hF, hp⟩
      refine k_call [] rfl (by kernel_rfl) (args0 ) (point_twice_ok   _ (hp.toR (fun _ h => by cases h)) qr12) ?_
      rintro _ w' ⟨_, rfl, rfl, lr120, hpc⟩
      refine ⟨_, rfl, .inr (.of_below hpc.chg.to_below), ?_⟩; have hp := hp.below hpc.chg.to_below; clear hpc
      exact k_done ⟨g15, c_g15_0, ⟨⟨⟨⟨(fun _ => lr120), hF.1.1.1.2⟩, hF.1.1.2⟩, ⟨⟨hF.1.2.1.1, (fun _ => rfl)⟩, hF.1.2.2⟩⟩, hF.2⟩, hp⟩
    refine allU_cons ?_ ?_
    · rintro L e w hLi hb hcl ⟨g15, c_g15_0, hF, hp⟩
      have hL2 := hb 2 (by kernel_rfl)
      have lr120 := hF.1.1.1.1 hL2
      refine k_call [.agg (ints .u64 ((a0.drop 15).take 5)).toArray, .agg (ints .u64 r12).toArray] rfl (by kernel_rfl) (args2 hF.1.2.1.1.2.1.2 (hF.1.2.1.2 hL2)) (field_Element_Times_ok ((a0.drop 15).take 5) r12 (show List.length ((a0.drop 15).take 5) = 5 from part_len la0 (by decide)) lr120 _ (hp.toR (fun _ h => by cases h)) qr13) ?_
      rintro _ w' ⟨_, rfl, rfl, lr130, hpc⟩
      refine ⟨_, rfl, .inr (.of_below hpc.chg.to_below), ?_⟩; have hp := hp.below hpc.chg.to_below; clear hpc
      exact k_done ⟨g15, c_g15_0, ⟨⟨⟨⟨hF.1.1.1.1, (fun _ => lr130)⟩, hF.1.1.2⟩, ⟨hF.1.2.1, (fun _ => rfl)⟩⟩, hF.2⟩, hp⟩
    refine allU_cons ?_ ?_
    · rintro L e w hLi hb hcl ⟨g15, c_g15_0, hF, hp⟩
      have hL3 := hb 3 (by kernel_rfl)
      have lr130 := hF.1.1.1.2 hL3
      refine k_call [.agg (ints .u64 r13).toArray, .agg (ints .u64 ((a1.drop 15).take 5)).toArray] rfl (by kernel_rfl) (args2 (hF.1.2.2 hL3) hF.1.2.1.1.2.2) (field_Element_Times_ok r13 ((a1.drop 15).take 5) lr130 (show List.length ((a1.drop 15).take 5) = 5 from part_len la1 (by decide)) _ (hp.toR (fun _ h => by cases h)) qr14) ?_
      rintro _ w' ⟨_, rfl, rfl, lr140, hpc⟩
      refine ⟨_, rfl, .inr (.of_below hpc.chg.to_below), ?_⟩; have hp := hp.below hpc.chg.to_below; clear hpc
      exact k_done ⟨g15, c_g15_0, ⟨⟨⟨hF.1.1.1, (fun _ => lr140)⟩, hF.1.2⟩, ⟨⟨⟨(fun _ => rfl), hF.2.1.1.2⟩, hF.2.1.2⟩, hF.2.2⟩⟩, hp⟩
    refine allU_cons ?_ ?_
    · rintro L e w hLi hb hcl ⟨g15, c_g15_0, hF, hp⟩
      have qc_g15_0 := hF.2.1.2 hLi
      rw [qc_g15_0] at hp
      refine k_allocAt 5 (ints .u64 (List.replicate 5 (0 : Int))) rfl (by kernel_rfl) hp ?_
      intro g15 w hbg15 hp
      exact k_done ⟨g15, (List.replicate 5 (0 : Int)), ⟨hF.1, ⟨⟨⟨hF.2.1.1.1, (fun _ => rfl)⟩, (fun h => nomatch (show true = false from h))⟩, ⟨(fun _ _ => rfl), (fun h => absurd (hLi.symm.trans (hcl 8 7 (by kernel_rfl) h)) (by decide))⟩⟩⟩, hp⟩
    refine allU_cons ?_ allU_nil
    · rintro L e w hLi hb hcl ⟨g15, c_g15_0, hF, hp⟩
      have hL6 := hb 6 (by kernel_rfl)
      have hL7 := hb 7 (by kernel_rfl)
      have lr140 := hF.1.1.2 hL6
      have qc_g15_0 := hF.2.2.1 hLi hL7
      rw [qc_g15_0] at hp
      refine k_storeA (v := .agg (ints .u64 r14).toArray) 5 0 (r := ⟨g15, 0, ints .u64 (List.replicate 5 (0 : Int))⟩) (ints .u64 r14) (ints .u64 r14) rfl (n := 5) (by kernel_rfl) (hF.2.1.1.2 hL7) (hF.2.1.1.1 hL6) rfl ((ints_length _ _).trans lr140) (ints_one _ _) hp rfl rfl rfl (Nat.le_of_eq ((Nat.zero_add _).trans ((ints_length _ _).trans List.length_replicate).symm)) (setMany_all _ _ (((ints_length _ _).trans lr140).trans ((ints_length _ _).trans List.length_replicate).symm)) (by decide) ?_; intro w hp
      exact k_done ⟨g15, r14, ⟨hF.1, ⟨⟨hF.2.1.1, (fun h => absurd (hL7.symm.trans h) (by decide))⟩, ⟨(fun h _ => nomatch (show true = false from h)), (fun _ => rfl)⟩⟩⟩, hp⟩
  rintro e186 w ⟨g15, hF, hp⟩
  have lr140 := hF.1.1.1
  have s2_e186 := hF.1.1.2
  have s3_e186 := hF.1.2.1
  have s4_e186 := hF.1.2.2
  have s5_e186 := hF.2.1.1
  have s6_e186 := hF.2.1.2
  have s7_e186 := hF.2.2
  clear hF
  refine wseqP (p0 := [1, 1, 1, 1, 0]) (p1 := [1, 1, 1, 1, 1]) rfl rfl rfl ?_
  refine wregionT point_Point_Plus.o5 (.tp 0 (.tk 1 (.tp 2 (.tk 3 (.ef 4 (.ef 5 (.ef 6 (.done)))))))) [6] rfl rfl (by kernel_rfl) (by kernel_rfl) ?_
  refine k_fieldAddr (n := 10) rfl (by kernel_rfl) s2_e186 ?_
  refine k_loadA (n := 5) (xs := ints .u64 ((a0.drop 10).take 5)) 10 rfl (by kernel_rfl) (by kernel_rfl) rfl (hp.get (j := 0) rfl) rfl rfl ((ints_length _ _).trans (show List.length ((a0.drop 10).take 5) = 5 from part_len la0 (by decide))) (fun m v hm => part_get hm) ?_
  refine k_fieldAddr (n := 10) rfl (by kernel_rfl) s3_e186 ?_
  refine k_loadA (n := 5) (xs := ints .u64 ((a1.drop 10).take 5)) 10 rfl (by kernel_rfl) (by kernel_rfl) rfl (hp.get (j := 1) rfl) rfl rfl ((ints_length _ _).trans (show List.length ((a1.drop 10).take 5) = 5 from part_len la1 (by decide))) (fun m v hm => part_get hm) ?_
  obtain ⟨r16, qr16, h⟩ := bd_e h
  refine k_call [.agg (ints .u64 ((a0.drop 10).take 5)).toArray, .agg (ints .u64 ((a1.drop 10).take 5)).toArray] rfl (by kernel_rfl) (args2 rfl rfl) (field_Element_Times_ok ((a0.drop 10).take 5) ((a1.drop 10).take 5) (show List.length ((a0.drop 10).take 5) = 5 from part_len la0 (by decide)) (show List.length ((a1.drop 10).take 5) = 5 from part_len la1 (by decide)) _ (hp.toR (fun _ h => by cases h)) qr16) ?_
  rintro _ w' ⟨_, rfl, rfl, lr160, hpc⟩
  refine ⟨_, rfl, .inr (.of_below hpc.chg.to_below), ?_⟩; have hp := hp.below hpc.chg.to_below; clear hpc
  refine k_alloc (ints .u64 (List.replicate 5 (0 : Int))) rfl (by kernel_rfl) hp ?_
  intro g17 w hbg17 hp
  refine k_storeA (v := .agg (ints .u64 r16).toArray) 6 0 (r := ⟨g17, 0, ints .u64 (List.replicate 5 (0 : Int))⟩) (ints .u64 r16) (ints .u64 r16) rfl (n := 5) (by kernel_rfl) rfl rfl rfl ((ints_length _ _).trans lr160) (ints_one _ _) hp rfl rfl rfl (Nat.le_of_eq ((Nat.zero_add _).trans ((ints_length _ _).trans List.length_replicate).symm)) (setMany_all _ _ (((ints_length _ _).trans lr160).trans ((ints_length _ _).trans List.length_replicate).symm)) (by decide) ?_; intro w hp
  refine k_end ?_; intro e187 qe187
  have s4_e187 : e187 4 = .pointer (some ⟨g3, 0, none⟩) := (congrFun qe187 4).trans s4_e186
  have s5_e187 : e187 5 = .pointer (some ⟨g7, 0, none⟩) := (congrFun qe187 5).trans s5_e186
  have s6_e187 : e187 6 = .pointer (some ⟨g11, 0, none⟩) := (congrFun qe187 6).trans s6_e186
  have s7_e187 : e187 7 = .pointer (some ⟨g15, 0, none⟩) := (congrFun qe187 7).trans s7_e186
  have s8_e187 : e187 8 = .pointer (some ⟨g17, 0, none⟩) := congrFun qe187 8
  clear qe187
  refine wseqP (p0 := [1, 1, 1, 1, 1, 0]) (p1 := [1, 1, 1, 1, 1, 1]) rfl rfl rfl ?_
  refine wregionT point_Point_Plus.o6 (.tk 0 (.tk 1 (.ef 2 (.ef 3 (.done))))) [3] rfl rfl (by kernel_rfl) (by kernel_rfl) ?_
  refine k_loadA (n := 5) (xs := ints .u64 r16) 0 rfl (by kernel_rfl) (by kernel_rfl) s8_e187 (hp.get (j := 6) rfl) rfl rfl ((ints_length _ _).trans lr160) (fun m v hm => by rw [Nat.zero_add]; exact hm) ?_
  refine k_loadA (n := 5) (xs := ints .u64 r16) 0 rfl (by kernel_rfl) (by kernel_rfl) s8_e187 (hp.get (j := 6) rfl) rfl rfl ((ints_length _ _).trans lr160) (fun m v hm => by rw [Nat.zero_add]; exact hm) ?_
  obtain ⟨r18, qr18, h⟩ := bd_e h
  refine k_call [.agg (ints .u64 r16).toArray, .agg (ints .u64 r16).toArray] rfl (by kernel_rfl) (args2 rfl rfl) (field_Element_Plus_ok k r16 r16 lr160 lr160 _ (hp.toR (fun _ h => by cases h)) qr18) ?_
  rintro _ w' ⟨_, rfl, rfl, lr180, hpc⟩
  refine ⟨_, rfl, .inr (.of_below hpc.chg.to_below), ?_⟩; have hp := hp.below hpc.chg.to_below; clear hpc
  refine k_storeA (v := .agg (ints .u64 r18).toArray) 6 0 (r := ⟨g17, 0, ints .u64 r16⟩) (ints .u64 r18) (ints .u64 r18) rfl (n := 5) (by kernel_rfl) s8_e187 rfl rfl ((ints_length _ _).trans lr180) (ints_one _ _) hp rfl rfl rfl (Nat.le_of_eq ((Nat.zero_add _).trans ((ints_length _ _).trans lr160).symm)) (setMany_all _ _ (((ints_length _ _).trans lr180).trans ((ints_length _ _).trans lr160).symm)) (by decide) ?_; intro w hp
  refine k_end ?_; intro e188 qe188
  have s4_e188 : e188 4 = .pointer (some ⟨g3, 0, none⟩) := (congrFun qe188 4).trans s4_e187
  have s5_e188 : e188 5 = .pointer (some ⟨g7, 0, none⟩) := (congrFun qe188 5).trans s5_e187
  have s6_e188 : e188 6 = .pointer (some ⟨g11, 0, none⟩) := (congrFun qe188 6).trans s6_e187
  have s7_e188 : e188 7 = .pointer (some ⟨g15, 0, none⟩) := (congrFun qe188 7).trans s7_e187
  have s8_e188 : e188 8 = .pointer (some ⟨g17, 0, none⟩) := (congrFun qe188 8).trans s8_e187
  clear qe188
  refine wseqP (p0 := [1, 1, 1, 1, 1, 1, 0]) (p1 := [1, 1, 1, 1, 1, 1, 1]) rfl rfl rfl ?_
  obtain ⟨r19, qr19, h⟩ := bd_e h
  obtain ⟨r20, qr20, h⟩ := bd_e h
  obtain ⟨r21, qr21, h⟩ := bd_e h
  obtain ⟨r22, qr22, h⟩ := bd_e h
  refine wcut (fun e189 w2 => ∃ g23 g24 g25 g26 : Nat, ((((r19.length = 5 ∧ r20.length = 5) ∧ r21.length = 5) ∧ (r22.length = 5 ∧ e189 4 = .pointer (some ⟨g3, 0, none⟩))) ∧ ((e189 9 = .pointer (some ⟨g23, 0, none⟩) ∧ e189 10 = .pointer (some ⟨g24, 0, none⟩)) ∧ (e189 11 = .pointer (some ⟨g25, 0, none⟩) ∧ e189 12 = .pointer (some ⟨g26, 0, none⟩)))) ∧ Hp w0 [] w2 [⟨g1, 0, ints .u64 a0⟩, ⟨g2, 0, ints .u64 a1⟩, ⟨g3, 0, ints .u64 (List.replicate 20 (0 : Int))⟩, ⟨g7, 0, ints .u64 r6⟩, ⟨g11, 0, ints .u64 r10⟩, ⟨g15, 0, ints .u64 r14⟩, ⟨g17, 0, ints .u64 r18⟩, ⟨g23, 0, ints .u64 r19⟩, ⟨g24, 0, ints .u64 r20⟩, ⟨g25, 0, ints .u64 r21⟩, ⟨g26, 0, ints .u64 r22⟩] []) ?_ ?_
  rotate_left
  · refine wregionM point_Point_Plus.o7 (.tk 0 (.tk 1 (.rest 3 18))) [16, 17, 18, 19] [(0, 0, 0), (0, 0, 0), (3, 1048575, 1048575), (0, 1048575, 1048575), (0, 1048575, 1048575), (28, 1048575, 1048575), (0, 1048575, 1048575), (0, 1048575, 1048575), (224, 1048575, 1048575), (0, 1048575, 1048575), (0, 1048575, 1048575), (1792, 1048575, 1048575), (0, 1048575, 1048575), (0, 1048575, 1048575), (0, 1048575, 1048575), (0, 1048575, 1048575), (63495, 1048575, 1048575), (127039, 1048575, 1048575), (258559, 1048575, 1048575), (524287, 1048575, 1048575)] rfl rfl (by kernel_rfl) (by kernel_rfl) (Nat.le_of_ble_eq_true (by kernel_rfl)) (by kernel_rfl) (by kernel_rfl) (by kernel_rfl) ?_
    have hp := hp.drew
    refine k_loadA (n := 5) (xs := ints .u64 r10) 0 rfl (by kernel_rfl) (by kernel_rfl) s6_e188 (hp.get (j := 4) rfl) rfl rfl ((ints_length _ _).trans lr100) (fun m v hm => by rw [Nat.zero_add]; exact hm) ?_
    refine k_loadA (n := 5) (xs := ints .u64 r6) 0 rfl (by kernel_rfl) (by kernel_rfl) s5_e188 (hp.get (j := 3) rfl) rfl rfl ((ints_length _ _).trans lr60) (fun m v hm => by rw [Nat.zero_add]; exact hm) ?_
    refine k_rest [2, 3, 4, 5, 6, 7, 8, 9, 10, 11, 12, 13, 14, 15, 16, 17, 18, 19] (fun L e w => ∃ g23 g24 g25 g26 : Nat, ∃ c_g23_0 c_g24_1 c_g25_2 c_g26_3 : List Int, ((((((L 2 = true → r19.length = 5) ∧ (L 5 = true → r20.length = 5)) ∧ ((L 8 = true → r21.length = 5) ∧ (L 11 = true → r22.length = 5))) ∧ (((((e 4 = .pointer (some ⟨g3, 0, none⟩) ∧ e 5 = .pointer (some ⟨g7, 0, none⟩)) ∧ (e 6 = .pointer (some ⟨g11, 0, none⟩) ∧ e 7 = .pointer (some ⟨g15, 0, none⟩))) ∧ ((e 8 = .pointer (some ⟨g17, 0, none⟩) ∧ e 50 = .agg (ints .u64 r10).toArray) ∧ e 51 = .agg (ints .u64 r6).toArray)) ∧ (L 2 = true → e 52 = .agg (ints .u64 r19).toArray)) ∧ ((L 3 = true → e 53 = .agg (ints .u64 r18).toArray) ∧ (L 4 = true → e 54 = .agg (ints .u64 r14).toArray)))) ∧ ((((L 5 = true → e 55 = .agg (ints .u64 r20).toArray) ∧ (L 6 = true → e 56 = .agg (ints .u64 r18).toArray)) ∧ ((L 7 = true → e 57 = .agg (ints .u64 r14).toArray) ∧ (L 8 = true → e 58 = .agg (ints .u64 r21).toArray))) ∧ (((L 9 = true → e 59 = .agg (ints .u64 r10).toArray) ∧ (L 10 = true → e 60 = .agg (ints .u64 r6).toArray)) ∧ ((L 11 = true → e 61 = .agg (ints .u64 r22).toArray) ∧ (L 12 = true → e 9 = .pointer (some ⟨g23, 0, none⟩)))))) ∧ (((((L 13 = true → e 10 = .pointer (some ⟨g24, 0, none⟩)) ∧ (L 14 = true → e 11 = .pointer (some ⟨g25, 0, none⟩))) ∧ ((L 15 = true → e 12 = .pointer (some ⟨g26, 0, none⟩)) ∧ (L 12 = false → c_g23_0 = ([] : List Int)))) ∧ (((L 16 = false → L 12 = true → c_g23_0 = (List.replicate 5 (0 : Int))) ∧ (L 16 = true → c_g23_0 = r19)) ∧ ((L 13 = false → c_g24_1 = ([] : List Int)) ∧ (L 17 = false → L 13 = true → c_g24_1 = (List.replicate 5 (0 : Int)))))) ∧ ((((L 17 = true → c_g24_1 = r20) ∧ (L 14 = false → c_g25_2 = ([] : List Int))) ∧ ((L 18 = false → L 14 = true → c_g25_2 = (List.replicate 5 (0 : Int))) ∧ (L 18 = true → c_g25_2 = r21))) ∧ (((L 15 = false → c_g26_3 = ([] : List Int)) ∧ (L 19 = false → L 15 = true → c_g26_3 = (List.replicate 5 (0 : Int)))) ∧ (L 19 = true → c_g26_3 = r22))))) ∧ Hp w0 [] w [⟨g1, 0, ints .u64 a0⟩, ⟨g2, 0, ints .u64 a1⟩, ⟨g3, 0, ints .u64 (List.replicate 20 (0 : Int))⟩, ⟨g7, 0, ints .u64 r6⟩, ⟨g11, 0, ints .u64 r10⟩, ⟨g15, 0, ints .u64 r14⟩, ⟨g17, 0, ints .u64 r18⟩, ⟨g23, 0, ints .u64 c_g23_0⟩, ⟨g24, 0, ints .u64 c_g24_1⟩, ⟨g25, 0, ints .u64 c_g25_2⟩, ⟨g26, 0, ints .u64 c_g26_3⟩] []) (by kernel_rfl) (by kernel_rfl) ?_ ?_ ?_
    have hp := hp.free1 0 0
    have hp := hp.free1 0 0
    have hp := hp.free1 0 0
    have hp := hp.free1 0 0
    · exact ⟨0, 0, 0, 0, ([] : List Int), ([] : List Int), ([] : List Int), ([] : List Int), ⟨⟨⟨⟨⟨(fun h => absurd h (by decide)), (fun h => absurd h (by decide))⟩, ⟨(fun h => absurd h (by decide)), (fun h => absurd h (by decide))⟩⟩, ⟨⟨⟨⟨⟨s4_e188, s5_e188⟩, ⟨s6_e188, s7_e188⟩⟩, ⟨⟨s8_e188, rfl⟩, rfl⟩⟩, (fun h => absurd h (by decide))⟩, ⟨(fun h => absurd h (by decide)), (fun h => absurd h (by decide))⟩⟩⟩, ⟨⟨⟨(fun h => absurd h (by decide)), (fun h => absurd h (by decide))⟩, ⟨(fun h => absurd h (by decide)), (fun h => absurd h (by decide))⟩⟩, ⟨⟨(fun h => absurd h (by decide)), (fun h => absurd h (by decide))⟩, ⟨(fun h => absurd h (by decide)), (fun h => absurd h (by decide))⟩⟩⟩⟩, ⟨⟨⟨⟨(fun h => absurd h (by decide)), (fun h => absurd h (by decide))⟩, ⟨(fun h => absurd h (by decide)), (fun _ => rfl)⟩⟩, ⟨⟨(fun _ h => absurd h (by decide)), (fun h => absurd h (by decide))⟩, ⟨(fun _ => rfl), (fun _ h => absurd h (by decide))⟩⟩⟩, ⟨⟨⟨(fun h => absurd h (by decide)), (fun _ => rfl)⟩, ⟨(fun _ h => absurd h (by decide)), (fun h => absurd h (by decide))⟩⟩, ⟨⟨(fun _ => rfl), (fun _ h => absurd h (by decide))⟩, (fun h => absurd h (by decide))⟩⟩⟩⟩, hp⟩
    · rintro L e w hall ⟨g23, g24, g25, g26, c_g23_0, c_g24_1, c_g25_2, c_g26_3, hF, hp⟩
      have qc_g23_0 := hF.2.1.2.1.2 (hall 16 rfl)
      rw [qc_g23_0] at hp
      have qc_g24_1 := hF.2.2.1.1.1 (hall 17 rfl)
      rw [qc_g24_1] at hp
      have qc_g25_2 := hF.2.2.1.2.2 (hall 18 rfl)
      rw [qc_g25_2] at hp
      have qc_g26_3 := hF.2.2.2.2 (hall 19 rfl)
      rw [qc_g26_3] at hp
      exact onlyN_i ⟨g23, g24, g25, g26, ⟨⟨⟨⟨(hF.1.1.1.1.1 (hall 2 rfl)), (hF.1.1.1.1.2 (hall 5 rfl))⟩, (hF.1.1.1.2.1 (hall 8 rfl))⟩, ⟨(hF.1.1.1.2.2 (hall 11 rfl)), hF.1.1.2.1.1.1.1.1⟩⟩, ⟨⟨(hF.1.2.2.2.2 (hall 12 rfl)), (hF.2.1.1.1.1 (hall 13 rfl))⟩, ⟨(hF.2.1.1.1.2 (hall 14 rfl)), (hF.2.1.1.2.1 (hall 15 rfl))⟩⟩⟩, hp⟩
    refine allU_cons ?_ ?_
    · rintro L e w hLi hb hcl ⟨g23, g24, g25, g26, c_g23_0, c_g24_1, c_g25_2, c_g26_3, hF, hp⟩
      refine k_call [.agg (ints .u64 r10).toArray, .agg (ints .u64 r6).toArray] rfl (by kernel_rfl) (args2 hF.1.1.2.1.1.2.1.2 hF.1.1.2.1.1.2.2) (field_Element_Minus_ok r10 r6 lr100 lr60 _ (hp.toR (fun _ h => by cases h)) qr19) ?_
      rintro _ w' ⟨_, rfl, rfl, lr190, hpc⟩
      refine ⟨_, rfl, .inr (.of_below hpc.chg.to_below), ?_⟩; have hp := hp.below hpc.chg.to_below; clear hpc
      exact k_done ⟨g23, g24, g25, g26, c_g23_0, c_g24_1, c_g25_2, c_g26_3, ⟨⟨⟨⟨⟨(fun _ => lr190), hF.1.1.1.1.2⟩, hF.1.1.1.2⟩, ⟨⟨hF.1.1.2.1.1, (fun _ => rfl)⟩, hF.1.1.2.2⟩⟩, hF.1.2⟩, hF.2⟩, hp⟩
    refine allU_cons ?_ ?_
    · rintro L e w hLi hb hcl ⟨g23, g24, g25, g26, c_g23_0, c_g24_1, c_g25_2, c_g26_3, hF, hp⟩
      refine tk_ef ?_
      refine k_loadA (n := 5) (xs := ints .u64 r18) 0 rfl (by kernel_rfl) (by kernel_rfl) hF.1.1.2.1.1.2.1.1 (hp.get (j := 6) rfl) rfl rfl ((ints_length _ _).trans lr180) (fun m v hm => by rw [Nat.zero_add]; exact hm) ?_
      exact k_done ⟨g23, g24, g25, g26, c_g23_0, c_g24_1, c_g25_2, c_g26_3, ⟨⟨⟨hF.1.1.1, ⟨hF.1.1.2.1, ⟨(fun _ => rfl), hF.1.1.2.2.2⟩⟩⟩, hF.1.2⟩, hF.2⟩, hp⟩
    refine allU_cons ?_ ?_
    · rintro L e w hLi hb hcl ⟨g23, g24, g25, g26, c_g23_0, c_g24_1, c_g25_2, c_g26_3, hF, hp⟩
      refine tk_ef ?_
      refine k_loadA (n := 5) (xs := ints .u64 r14) 0 rfl (by kernel_rfl) (by kernel_rfl) hF.1.1.2.1.1.1.2.2 (hp.get (j := 5) rfl) rfl rfl ((ints_length _ _).trans lr140) (fun m v hm => by rw [Nat.zero_add]; exact hm) ?_
      exact k_done ⟨g23, g24, g25, g26, c_g23_0, c_g24_1, c_g25_2, c_g26_3, ⟨⟨⟨hF.1.1.1, ⟨hF.1.1.2.1, ⟨hF.1.1.2.2.1, (fun _ => rfl)⟩⟩⟩, hF.1.2⟩, hF.2⟩, hp⟩
    refine allU_cons ?_ ?_
    · rintro L e w hLi hb hcl ⟨g23, g24, g25, g26, c_g23_0, c_g24_1, c_g25_2, c_g26_3, hF, hp⟩
      have hL3 := hb 3 (by kernel_rfl)
      have hL4 := hb 4 (by kernel_rfl)
      refine k_call [.agg (ints .u64 r18).toArray, .agg (ints .u64 r14).toArray] rfl (by kernel_rfl) (args2 (hF.1.1.2.2.1 hL3) (hF.1.1.2.2.2 hL4)) (field_Element_Minus_ok r18 r14 lr180 lr140 _ (hp.toR (fun _ h => by cases h)) qr20) ?_
      rintro _ w' ⟨_, rfl, rfl, lr200, hpc⟩
      refine ⟨_, rfl, .inr (.of_below hpc.chg.to_below), ?_⟩; have hp := hp.below hpc.chg.to_below; clear hpc
      exact k_done ⟨g23, g24, g25, g26, c_g23_0, c_g24_1, c_g25_2, c_g26_3, ⟨⟨⟨⟨⟨hF.1.1.1.1.1, (fun _ => lr200)⟩, hF.1.1.1.2⟩, hF.1.1.2⟩, ⟨⟨⟨(fun _ => rfl), hF.1.2.1.1.2⟩, hF.1.2.1.2⟩, hF.1.2.2⟩⟩, hF.2⟩, hp⟩
    refine allU_cons ?_ ?_
    · rintro L e w hLi hb hcl ⟨g23, g24, g25, g26, c_g23_0, c_g24_1, c_g25_2, c_g26_3, hF, hp⟩
      refine tk_ef ?_
      refine k_loadA (n := 5) (xs := ints .u64 r18) 0 rfl (by kernel_rfl) (by kernel_rfl) hF.1.1.2.1.1.2.1.1 (hp.get (j := 6) rfl) rfl rfl ((ints_length _ _).trans lr180) (fun m v hm => by rw [Nat.zero_add]; exact hm) ?_
      exact k_done ⟨g23, g24, g25, g26, c_g23_0, c_g24_1, c_g25_2, c_g26_3, ⟨⟨hF.1.1, ⟨⟨⟨hF.1.2.1.1.1, (fun _ => rfl)⟩, hF.1.2.1.2⟩, hF.1.2.2⟩⟩, hF.2⟩, hp⟩
    refine allU_cons ?_ ?_
    · rintro L e w hLi hb hcl ⟨g23, g24, g25, g26, c_g23_0, c_g24_1, c_g25_2, c_g26_3, hF, hp⟩
      refine tk_ef ?_
      refine k_loadA (n := 5) (xs := ints .u64 r14) 0 rfl (by kernel_rfl) (by kernel_rfl) hF.1.1.2.1.1.1.2.2 (hp.get (j := 5) rfl) rfl rfl ((ints_length _ _).trans lr140) (fun m v hm => by rw [Nat.zero_add]; exact hm) ?_
      exact k_done ⟨g23, g24, g25, g26, c_g23_0, c_g24_1, c_g25_2, c_g26_3, ⟨⟨hF.1.1, ⟨⟨hF.1.2.1.1, ⟨(fun _ => rfl), hF.1.2.1.2.2⟩⟩, hF.1.2.2⟩⟩, hF.2⟩, hp⟩
    refine allU_cons ?_ ?_
    · rintro L e w hLi hb hcl ⟨g23, g24, g25, g26, c_g23_0, c_g24_1, c_g25_2, c_g26_3, hF, hp⟩
      have hL6 := hb 6 (by kernel_rfl)
      have hL7 := hb 7 (by kernel_rfl)
      refine k_call [.agg (ints .u64 r18).toArray, .agg (ints .u64 r14).toArray] rfl (by kernel_rfl) (args2 (hF.1.2.1.1.2 hL6) (hF.1.2.1.2.1 hL7)) (field_Element_Plus_ok k r18 r14 lr180 lr140 _ (hp.toR (fun _ h => by cases h)) qr21) ?_
      rintro _ w' ⟨_, rfl, rfl, lr210, hpc⟩
      refine ⟨_, rfl, .inr (.of_below hpc.chg.to_below), ?_⟩; have hp := hp.below hpc.chg.to_below; clear hpc
      exact k_done ⟨g23, g24, g25, g26, c_g23_0, c_g24_1, c_g25_2, c_g26_3, ⟨⟨⟨⟨hF.1.1.1.1, ⟨(fun _ => lr210), hF.1.1.1.2.2⟩⟩, hF.1.1.2⟩, ⟨⟨hF.1.2.1.1, ⟨hF.1.2.1.2.1, (fun _ => rfl)⟩⟩, hF.1.2.2⟩⟩, hF.2⟩, hp⟩
    refine allU_cons ?_ ?_
    · rintro L e w hLi hb hcl ⟨g23, g24, g25, g26, c_g23_0, c_g24_1, c_g25_2, c_g26_3, hF, hp⟩
      refine tk_ef ?_
      refine k_loadA (n := 5) (xs := ints .u64 r10) 0 rfl (by kernel_rfl) (by kernel_rfl) hF.1.1.2.1.1.1.2.1 (hp.get (j := 4) rfl) rfl rfl ((ints_length _ _).trans lr100) (fun m v hm => by rw [Nat.zero_add]; exact hm) ?_
      exact k_done ⟨g23, g24, g25, g26, c_g23_0, c_g24_1, c_g25_2, c_g26_3, ⟨⟨hF.1.1, ⟨hF.1.2.1, ⟨⟨(fun _ => rfl), hF.1.2.2.1.2⟩, hF.1.2.2.2⟩⟩⟩, hF.2⟩, hp⟩
    refine allU_cons ?_ ?_
    · rintro L e w hLi hb hcl ⟨g23, g24, g25, g26, c_g23_0, c_g24_1, c_g25_2, c_g26_3, hF, hp⟩
      refine tk_ef ?_
      refine k_loadA (n := 5) (xs := ints .u64 r6) 0 rfl (by kernel_rfl) (by kernel_rfl) hF.1.1.2.1.1.1.1.2 (hp.get (j := 3) rfl) rfl rfl ((ints_length _ _).trans lr60) (fun m v hm => by rw [Nat.zero_add]; exact hm) ?_
      exact k_done ⟨g23, g24, g25, g26, c_g23_0, c_g24_1, c_g25_2, c_g26_3, ⟨⟨hF.1.1, ⟨hF.1.2.1, ⟨⟨hF.1.2.2.1.1, (fun _ => rfl)⟩, hF.1.2.2.2⟩⟩⟩, hF.2⟩, hp⟩
    refine allU_cons ?_ ?_
    · rintro L e w hLi hb hcl ⟨g23, g24, g25, g26, c_g23_0, c_g24_1, c_g25_2, c_g26_3, hF, hp⟩
      have hL9 := hb 9 (by kernel_rfl)
      have hL10 := hb 10 (by kernel_rfl)
      refine k_call [.agg (ints .u64 r10).toArray, .agg (ints .u64 r6).toArray] rfl (by kernel_rfl) (args2 (hF.1.2.2.1.1 hL9) (hF.1.2.2.1.2 hL10)) (field_Element_Plus_ok k r10 r6 lr100 lr60 _ (hp.toR (fun _ h => by cases h)) qr22) ?_
      rintro _ w' ⟨_, rfl, rfl, lr220, hpc⟩
      refine ⟨_, rfl, .inr (.of_below hpc.chg.to_below), ?_⟩; have hp := hp.below hpc.chg.to_below; clear hpc
      exact k_done ⟨g23, g24, g25, g26, c_g23_0, c_g24_1, c_g25_2, c_g26_3, ⟨⟨⟨⟨hF.1.1.1.1, ⟨hF.1.1.1.2.1, (fun _ => lr220)⟩⟩, hF.1.1.2⟩, ⟨hF.1.2.1, ⟨hF.1.2.2.1, ⟨(fun _ => rfl), hF.1.2.2.2.2⟩⟩⟩⟩, hF.2⟩, hp⟩
    refine allU_cons ?_ ?_
    · rintro L e w hLi hb hcl ⟨g23, g24, g25, g26, c_g23_0, c_g24_1, c_g25_2, c_g26_3, hF, hp⟩
      have qc_g23_0 := hF.2.1.1.2.2 hLi
      rw [qc_g23_0] at hp
      refine k_allocAt 7 (ints .u64 (List.replicate 5 (0 : Int))) rfl (by kernel_rfl) hp ?_
      intro g23 w hbg23 hp
      exact k_done ⟨g23, g24, g25, g26, (List.replicate 5 (0 : Int)), c_g24_1, c_g25_2, c_g26_3, ⟨⟨hF.1.1, ⟨hF.1.2.1, ⟨hF.1.2.2.1, ⟨hF.1.2.2.2.1, (fun _ => rfl)⟩⟩⟩⟩, ⟨⟨⟨hF.2.1.1.1, ⟨hF.2.1.1.2.1, (fun h => nomatch (show true = false from h))⟩⟩, ⟨⟨(fun _ _ => rfl), (fun h => absurd (hLi.symm.trans (hcl 16 12 (by kernel_rfl) h)) (by decide))⟩, hF.2.1.2.2⟩⟩, hF.2.2⟩⟩, hp⟩
    refine allU_cons ?_ ?_
    · rintro L e w hLi hb hcl ⟨g23, g24, g25, g26, c_g23_0, c_g24_1, c_g25_2, c_g26_3, hF, hp⟩
      have qc_g24_1 := hF.2.1.2.2.1 hLi
      rw [qc_g24_1] at hp
      refine k_allocAt 8 (ints .u64 (List.replicate 5 (0 : Int))) rfl (by kernel_rfl) hp ?_
      intro g24 w hbg24 hp
      exact k_done ⟨g23, g24, g25, g26, c_g23_0, (List.replicate 5 (0 : Int)), c_g25_2, c_g26_3, ⟨hF.1, ⟨⟨⟨⟨(fun _ => rfl), hF.2.1.1.1.2⟩, hF.2.1.1.2⟩, ⟨hF.2.1.2.1, ⟨(fun h => nomatch (show true = false from h)), (fun _ _ => rfl)⟩⟩⟩, ⟨⟨⟨(fun h => absurd (hLi.symm.trans (hcl 17 13 (by kernel_rfl) h)) (by decide)), hF.2.2.1.1.2⟩, hF.2.2.1.2⟩, hF.2.2.2⟩⟩⟩, hp⟩
    refine allU_cons ?_ ?_
    · rintro L e w hLi hb hcl ⟨g23, g24, g25, g26, c_g23_0, c_g24_1, c_g25_2, c_g26_3, hF, hp⟩
      have qc_g25_2 := hF.2.2.1.1.2 hLi
      rw [qc_g25_2] at hp
      refine k_allocAt 9 (ints .u64 (List.replicate 5 (0 : Int))) rfl (by kernel_rfl) hp ?_
      intro g25 w hbg25 hp
      exact k_done ⟨g23, g24, g25, g26, c_g23_0, c_g24_1, (List.replicate 5 (0 : Int)), c_g26_3, ⟨hF.1, ⟨⟨⟨⟨hF.2.1.1.1.1, (fun _ => rfl)⟩, hF.2.1.1.2⟩, hF.2.1.2⟩, ⟨⟨⟨hF.2.2.1.1.1, (fun h => nomatch (show true = false from h))⟩, ⟨(fun _ _ => rfl), (fun h => absurd (hLi.symm.trans (hcl 18 14 (by kernel_rfl) h)) (by decide))⟩⟩, hF.2.2.2⟩⟩⟩, hp⟩
    refine allU_cons ?_ ?_
    · rintro L e w hLi hb hcl ⟨g23, g24, g25, g26, c_g23_0, c_g24_1, c_g25_2, c_g26_3, hF, hp⟩
      have qc_g26_3 := hF.2.2.2.1.1 hLi
      rw [qc_g26_3] at hp
      refine k_allocAt 10 (ints .u64 (List.replicate 5 (0 : Int))) rfl (by kernel_rfl) hp ?_
      intro g26 w hbg26 hp
      exact k_done ⟨g23, g24, g25, g26, c_g23_0, c_g24_1, c_g25_2, (List.replicate 5 (0 : Int)), ⟨hF.1, ⟨⟨⟨hF.2.1.1.1, ⟨(fun _ => rfl), hF.2.1.1.2.2⟩⟩, hF.2.1.2⟩, ⟨hF.2.2.1, ⟨⟨(fun h => nomatch (show true = false from h)), (fun _ _ => rfl)⟩, (fun h => absurd (hLi.symm.trans (hcl 19 15 (by kernel_rfl) h)) (by decide))⟩⟩⟩⟩, hp⟩
    refine allU_cons ?_ ?_
    · rintro L e w hLi hb hcl ⟨g23, g24, g25, g26, c_g23_0, c_g24_1, c_g25_2, c_g26_3, hF, hp⟩
      have hL2 := hb 2 (by kernel_rfl)
      have hL12 := hb 12 (by kernel_rfl)
      have lr190 := hF.1.1.1.1.1 hL2
      have qc_g23_0 := hF.2.1.2.1.1 hLi hL12
      rw [qc_g23_0] at hp
      refine k_storeA (v := .agg (ints .u64 r19).toArray) 7 0 (r := ⟨g23, 0, ints .u64 (List.replicate 5 (0 : Int))⟩) (ints .u64 r19) (ints .u64 r19) rfl (n := 5) (by kernel_rfl) (hF.1.2.2.2.2 hL12) (hF.1.1.2.1.2 hL2) rfl ((ints_length _ _).trans lr190) (ints_one _ _) hp rfl rfl rfl (Nat.le_of_eq ((Nat.zero_add _).trans ((ints_length _ _).trans List.length_replicate).symm)) (setMany_all _ _ (((ints_length _ _).trans lr190).trans ((ints_length _ _).trans List.length_replicate).symm)) (by decide) ?_; intro w hp
      exact k_done ⟨g23, g24, g25, g26, r19, c_g24_1, c_g25_2, c_g26_3, ⟨hF.1, ⟨⟨⟨hF.2.1.1.1, ⟨hF.2.1.1.2.1, (fun h => absurd (hL12.symm.trans h) (by decide))⟩⟩, ⟨⟨(fun h _ => nomatch (show true = false from h)), (fun _ => rfl)⟩, hF.2.1.2.2⟩⟩, hF.2.2⟩⟩, hp⟩
    refine allU_cons ?_ ?_
    · rintro L e w hLi hb hcl ⟨g23, g24, g25, g26, c_g23_0, c_g24_1, c_g25_2, c_g26_3, hF, hp⟩
      have hL5 := hb 5 (by kernel_rfl)
      have hL13 := hb 13 (by kernel_rfl)
      have lr200 := hF.1.1.1.1.2 hL5
      have qc_g24_1 := hF.2.1.2.2.2 hLi hL13
      rw [qc_g24_1] at hp
      refine k_storeA (v := .agg (ints .u64 r20).toArray) 8 0 (r := ⟨g24, 0, ints .u64 (List.replicate 5 (0 : Int))⟩) (ints .u64 r20) (ints .u64 r20) rfl (n := 5) (by kernel_rfl) (hF.2.1.1.1.1 hL13) (hF.1.2.1.1.1 hL5) rfl ((ints_length _ _).trans lr200) (ints_one _ _) hp rfl rfl rfl (Nat.le_of_eq ((Nat.zero_add _).trans ((ints_length _ _).trans List.length_replicate).symm)) (setMany_all _ _ (((ints_length _ _).trans lr200).trans ((ints_length _ _).trans List.length_replicate).symm)) (by decide) ?_; intro w hp
      exact k_done ⟨g23, g24, g25, g26, c_g23_0, r20, c_g25_2, c_g26_3, ⟨hF.1, ⟨⟨hF.2.1.1, ⟨hF.2.1.2.1, ⟨(fun h => absurd (hL13.symm.trans h) (by decide)), (fun h _ => nomatch (show true = false from h))⟩⟩⟩, ⟨⟨⟨(fun _ => rfl), hF.2.2.1.1.2⟩, hF.2.2.1.2⟩, hF.2.2.2⟩⟩⟩, hp⟩
    refine allU_cons ?_ ?_
    · rintro L e w hLi hb hcl ⟨g23, g24, g25, g26, c_g23_0, c_g24_1, c_g25_2, c_g26_3, hF, hp⟩
      have hL8 := hb 8 (by kernel_rfl)
      have hL14 := hb 14 (by kernel_rfl)
      have lr210 := hF.1.1.1.2.1 hL8
      have qc_g25_2 := hF.2.2.1.2.1 hLi hL14
      rw [qc_g25_2] at hp
      refine k_storeA (v := .agg (ints .u64 r21).toArray) 9 0 (r := ⟨g25, 0, ints .u64 (List.replicate 5 (0 : Int))⟩) (ints .u64 r21) (ints .u64 r21) rfl (n := 5) (by kernel_rfl) (hF.2.1.1.1.2 hL14) (hF.1.2.1.2.2 hL8) rfl ((ints_length _ _).trans lr210) (ints_one _ _) hp rfl rfl rfl (Nat.le_of_eq ((Nat.zero_add _).trans ((ints_length _ _).trans List.length_replicate).symm)) (setMany_all _ _ (((ints_length _ _).trans lr210).trans ((ints_length _ _).trans List.length_replicate).symm)) (by decide) ?_; intro w hp
      exact k_done ⟨g23, g24, g25, g26, c_g23_0, c_g24_1, r21, c_g26_3, ⟨hF.1, ⟨hF.2.1, ⟨⟨⟨hF.2.2.1.1.1, (fun h => absurd (hL14.symm.trans h) (by decide))⟩, ⟨(fun h _ => nomatch (show true = false from h)), (fun _ => rfl)⟩⟩, hF.2.2.2⟩⟩⟩, hp⟩
    refine allU_cons ?_ allU_nil
    · rintro L e w hLi hb hcl ⟨g23, g24, g25, g26, c_g23_0, c_g24_1, c_g25_2, c_g26_3, hF, hp⟩
      have hL11 := hb 11 (by kernel_rfl)
      have hL15 := hb 15 (by kernel_rfl)
      have lr220 := hF.1.1.1.2.2 hL11
      have qc_g26_3 := hF.2.2.2.1.2 hLi hL15
      rw [qc_g26_3] at hp
      refine k_storeA (v := .agg (ints .u64 r22).toArray) 10 0 (r := ⟨g26, 0, ints .u64 (List.replicate 5 (0 : Int))⟩) (ints .u64 r22) (ints .u64 r22) rfl (n := 5) (by kernel_rfl) (hF.2.1.1.2.1 hL15) (hF.1.2.2.2.1 hL11) rfl ((ints_length _ _).trans lr220) (ints_one _ _) hp rfl rfl rfl (Nat.le_of_eq ((Nat.zero_add _).trans ((ints_length _ _).trans List.length_replicate).symm)) (setMany_all _ _ (((ints_length _ _).trans lr220).trans ((ints_length _ _).trans List.length_replicate).symm)) (by decide) ?_; intro w hp
      exact k_done ⟨g23, g24, g25, g26, c_g23_0, c_g24_1, c_g25_2, r22, ⟨hF.1, ⟨hF.2.1, ⟨hF.2.2.1, ⟨⟨(fun h => absurd (hL15.symm.trans h) (by decide)), (fun h _ => nomatch (show true = false from h))⟩, (fun _ => rfl)⟩⟩⟩⟩, hp⟩
  rintro e189 w ⟨g23, g24, g25, g26, hF, hp⟩
  have lr190 := hF.1.1.1.1
  have lr200 := hF.1.1.1.2
  have lr210 := hF.1.1.2
  have lr220 := hF.1.2.1
  have s4_e189 := hF.1.2.2
  have s9_e189 := hF.2.1.1
  have s10_e189 := hF.2.1.2
  have s11_e189 := hF.2.2.1
  have s12_e189 := hF.2.2.2
  clear hF
  refine wseqP (p0 := [1, 1, 1, 1, 1, 1, 1, 0]) (p1 := [1, 1, 1, 1, 1, 1, 1, 1]) rfl rfl rfl ?_
  refine wregionM point_Point_Plus.o8 (.tk 0 (.tk 1 (.tk 3 (.tk 4 (.tk 6 (.tk 7 (.tk 9 (.tk 10 (.ef 2 (.ef 5 (.ef 8 (.ef 11 (.tp 12 (.ef 13 (.done))))))))))))))) [13] [(0, 0, 0), (0, 0, 0), (3, 16383, 16383), (0, 0, 0), (0, 0, 0), (28, 16383, 16383), (0, 0, 0), (0, 0, 0), (224, 16383, 16383), (0, 0, 0), (0, 0, 0), (1792, 16383, 16383), (2340, 2340, 16383), (8191, 16383, 16383)] rfl rfl (by kernel_rfl) (by kernel_rfl) (Nat.le_of_ble_eq_true (by kernel_rfl)) (by kernel_rfl) (by kernel_rfl) (by kernel_rfl) ?_
  have hp := hp.drew
  refine k_loadA (n := 5) (xs := ints .u64 r19) 0 rfl (by kernel_rfl) (by kernel_rfl) s9_e189 (hp.get (j := 7) rfl) rfl rfl ((ints_length _ _).trans lr190) (fun m v hm => by rw [Nat.zero_add]; exact hm) ?_
  refine k_loadA (n := 5) (xs := ints .u64 r20) 0 rfl (by kernel_rfl) (by kernel_rfl) s10_e189 (hp.get (j := 8) rfl) rfl rfl ((ints_length _ _).trans lr200) (fun m v hm => by rw [Nat.zero_add]; exact hm) ?_
  refine k_loadA (n := 5) (xs := ints .u64 r21) 0 rfl (by kernel_rfl) (by kernel_rfl) s11_e189 (hp.get (j := 9) rfl) rfl rfl ((ints_length _ _).trans lr210) (fun m v hm => by rw [Nat.zero_add]; exact hm) ?_
  refine k_loadA (n := 5) (xs := ints .u64 r22) 0 rfl (by kernel_rfl) (by kernel_rfl) s12_e189 (hp.get (j := 10) rfl) rfl rfl ((ints_length _ _).trans lr220) (fun m v hm => by rw [Nat.zero_add]; exact hm) ?_
  refine k_loadA (n := 5) (xs := ints .u64 r20) 0 rfl (by kernel_rfl) (by kernel_rfl) s10_e189 (hp.get (j := 8) rfl) rfl rfl ((ints_length _ _).trans lr200) (fun m v hm => by rw [Nat.zero_add]; exact hm) ?_
  refine k_loadA (n := 5) (xs := ints .u64 r21) 0 rfl (by kernel_rfl) (by kernel_rfl) s11_e189 (hp.get (j := 9) rfl) rfl rfl ((ints_length _ _).trans lr210) (fun m v hm => by rw [Nat.zero_add]; exact hm) ?_
  refine k_loadA (n := 5) (xs := ints .u64 r19) 0 rfl (by kernel_rfl) (by kernel_rfl) s9_e189 (hp.get (j := 7) rfl) rfl rfl ((ints_length _ _).trans lr190) (fun m v hm => by rw [Nat.zero_add]; exact hm) ?_
  refine k_loadA (n := 5) (xs := ints .u64 r22) 0 rfl (by kernel_rfl) (by kernel_rfl) s12_e189 (hp.get (j := 10) rfl) rfl rfl ((ints_length _ _).trans lr220) (fun m v hm => by rw [Nat.zero_add]; exact hm) ?_
  obtain ⟨r27, qr27, h⟩ := bd_e h
  refine k_call [.agg (ints .u64 r19).toArray, .agg (ints .u64 r20).toArray] rfl (by kernel_rfl) (args2 rfl rfl) (field_Element_Times_ok r19 r20 lr190 lr200 _ (hp.toR (fun _ h => by cases h)) qr27) ?_
  rintro _ w' ⟨_, rfl, rfl, lr270, hpc⟩
  refine ⟨_, rfl, .inr (.of_below hpc.chg.to_below), ?_⟩; have hp := hp.below hpc.chg.to_below; clear hpc
  obtain ⟨r28, qr28, h⟩ := bd_e h
  refine k_call [.agg (ints .u64 r21).toArray, .agg (ints .u64 r22).toArray] rfl (by kernel_rfl) (args2 rfl rfl) (field_Element_Times_ok r21 r22 lr210 lr220 _ (hp.toR (fun _ h => by cases h)) qr28) ?_
  rintro _ w' ⟨_, rfl, rfl, lr280, hpc⟩
  refine ⟨_, rfl, .inr (.of_below hpc.chg.to_below), ?_⟩; have hp := hp.below hpc.chg.to_below; clear hpc
  obtain ⟨r29, qr29, h⟩ := bd_e h
  refine k_call [.agg (ints .u64 r20).toArray, .agg (ints .u64 r21).toArray] rfl (by kernel_rfl) (args2 rfl rfl) (field_Element_Times_ok r20 r21 lr200 lr210 _ (hp.toR (fun _ h => by cases h)) qr29) ?_
  rintro _ w' ⟨_, rfl, rfl, lr290, hpc⟩
  refine ⟨_, rfl, .inr (.of_below hpc.chg.to_below), ?_⟩; have hp := hp.below hpc.chg.to_below; clear hpc
  obtain ⟨r30, qr30, h⟩ := bd_e h
  refine k_call [.agg (ints .u64 r19).toArray, .agg (ints .u64 r22).toArray] rfl (by kernel_rfl) (args2 rfl rfl) (field_Element_Times_ok r19 r22 lr190 lr220 _ (hp.toR (fun _ h => by cases h)) qr30) ?_
  rintro _ w' ⟨_, rfl, rfl, lr300, hpc⟩
  refine ⟨_, rfl, .inr (.of_below hpc.chg.to_below), ?_⟩; have hp := hp.below hpc.chg.to_below; clear hpc
  refine k_buildP (v := .agg (ints .u64 (r27 ++ r28 ++ r29 ++ r30)).toArray) [(0, .agg (ints .u64 r27).toArray), (1, .agg (ints .u64 r28).toArray), (2, .agg (ints .u64 r29).toArray), (3, .agg (ints .u64 r30).toArray)] rfl (pcons rfl (pcons rfl (pcons rfl (pcons rfl pnil)))) (fun _ => by rw [lst r27 lr270, lst r28 lr280, lst r29 lr290, lst r30 lr300]; kernel_rfl) ?_
  refine k_storeA (v := .agg (ints .u64 (r27 ++ r28 ++ r29 ++ r30)).toArray) 2 0 (r := ⟨g3, 0, ints .u64 (List.replicate 20 (0 : Int))⟩) (ints .u64 (r27 ++ r28 ++ r29 ++ r30)) (ints .u64 (r27 ++ r28 ++ r29 ++ r30)) rfl (n := 20) (by kernel_rfl) s4_e189 rfl rfl ((ints_length _ _).trans (show List.length ((r27 ++ r28 ++ r29 ++ r30) : List Int) = 20 by simp [lr270, lr280, lr290, lr300])) (ints_one _ _) hp rfl rfl rfl (Nat.le_of_eq ((Nat.zero_add _).trans ((ints_length _ _).trans List.length_replicate).symm)) (setMany_all _ _ (((ints_length _ _).trans (show List.length ((r27 ++ r28 ++ r29 ++ r30) : List Int) = 20 by simp [lr270, lr280, lr290, lr300])).trans ((ints_length _ _).trans List.length_replicate).symm)) (by decide) ?_; intro w hp
  refine k_end ?_; intro e190 qe190
  have s4_e190 : e190 4 = .pointer (some ⟨g3, 0, none⟩) := (congrFun qe190 4).trans s4_e189
  clear qe190
  refine wret rfl ?_
  have hr : r = (r27 ++ r28 ++ r29 ++ r30) := (Option.some.inj h).symm
  show RetP _ _ _ _ _
  rw [hr]
  exact ret_i [.agg (ints .u64 (r27 ++ r28 ++ r29 ++ r30)).toArray] (res_cell s4_e190 (loadVar_agg (by kernel_rfl) (by kernel_rfl) ((ints_length _ _).trans (show List.length ((r27 ++ r28 ++ r29 ++ r30) : List Int) = 20 by simp [lr270, lr280, lr290, lr300])) (hp.get (j := 2) rfl) rfl rfl rfl) res_nil) ⟨rfl, (show List.length ((r27 ++ r28 ++ r29 ++ r30) : List Int) = 20 by simp [lr270, lr280, lr290, lr300]), hp.none⟩
end Go.Proofs.Ytalnjdcidmkajaa
