/-
  The walks: each function of the program form returns what its plain definition computes. Printed by my own program.
  Conditions: none; every function is taken as the given program's form has it.
-/
import Derived.Test.YtmjjkhnofolacaaProg
import Derived.Test.YtmjjkhnofolacaaX2
namespace Go.Proofs.Ytmjjkhnofolacaa
open Go Go.Gx Go.RowKit
set_option linter.unusedVariables false
set_option maxRecDepth 100000
/-! 27 postilion/field.Ratio -/
theorem field_Ratio.p1_ok {w0 : World} {Ws : List Wr} {Q : Exit → Env → World → Prop} (k : Nat) (g1 g13 g16 g2 g3 g6 : Nat) (r17 : Bool) (a0 : List Int) (a1 : List Int) (r5 : List Int) (r12 : List Int) (r15 : List Int) (l_a0 : a0.length = 5) (l_a1 : a1.length = 5) (l_r5 : r5.length = 5) (l_r12 : r12.length = 5) (l_r15 : r15.length = 5) {r : List Int × List Int} (hQ0 : ∀ (e' : Env) (w' : World) (z0 : List Int) (z1 : List Int), z0.length = 5 → z1.length = 5 → e' 2 = .pointer (some ⟨g1, 0, none⟩) → e' 4 = .pointer (some ⟨g3, 0, none⟩) → e' 7 = .pointer (some ⟨g13, 0, none⟩) → e' 8 = .pointer (some ⟨g16, 0, none⟩) → Hp w0 Ws w' [⟨g1, 0, ints .u64 a0⟩, ⟨g2, 0, ints .u64 a1⟩, ⟨g3, 0, ints .u64 (List.replicate 5 (0 : Int))⟩, ⟨g6, 0, ints .u64 r5⟩, ⟨g13, 0, ints .u64 z0⟩, ⟨g16, 0, ints .u64 z1⟩] [] → r = (z0, z1) → Q .normal e' w') (e : Env) (w : World) (s2_e : e 2 = .pointer (some ⟨g1, 0, none⟩)) (s3_e : e 3 = .pointer (some ⟨g2, 0, none⟩)) (s4_e : e 4 = .pointer (some ⟨g3, 0, none⟩)) (s7_e : e 7 = .pointer (some ⟨g13, 0, none⟩)) (s8_e : e 8 = .pointer (some ⟨g16, 0, none⟩)) (s31_e : e 31 = .bool (!r17)) (hp : Hp w0 Ws w [⟨g1, 0, ints .u64 a0⟩, ⟨g2, 0, ints .u64 a1⟩, ⟨g3, 0, ints .u64 (List.replicate 5 (0 : Int))⟩, ⟨g6, 0, ints .u64 r5⟩, ⟨g13, 0, ints .u64 r12⟩, ⟨g16, 0, ints .u64 r15⟩] []) (h : field_Ratio.p1 k r17 a1 r12 r15 = some r) : Wp Try.prog Try.f27.ntmps (at_ (fbody Try.f27) [1, 1, 1, 1, 0, 1]) Q e w := by
  unfold field_Ratio.p1 at h
  refine wcond (t := (!r17)) rfl (by decide) s31_e (fun hb => ?_) (fun hb => ?_)
  · replace h := br_t hb h
    refine wseq rfl ?_
    refine wregion_m (.tk 0 (.ef 1 (.ef 2 (.ef 3 (.done))))) [3] [(0, 0, 0), (0, 15, 15), (3, 15, 15), (7, 15, 15)] rfl (by kernel_rfl) (by kernel_rfl) (Nat.le_of_ble_eq_true (by kernel_rfl)) (by kernel_rfl) (by kernel_rfl) ?_
    have hp := hp.drew
    refine k_loadA (n := 5) (xs := ints .u64 r12) 0 rfl (by kernel_rfl) (by kernel_rfl) s7_e (hp.get (j := 4) rfl) rfl rfl ((ints_length _ _).trans l_r12) (fun m v hm => by rw [Nat.zero_add]; exact hm) ?_
    obtain ⟨r18, qr18, h⟩ := bd_e h
    refine k_call [] rfl (by kernel_rfl) (args0 ) (field_RootOfMinusOne_ok   _ (hp.toR (fun _ h => by cases h)) qr18) ?_
    rintro _ w' ⟨_, rfl, rfl, lr180, hpc⟩
    refine ⟨_, rfl, .inr (.of_below hpc.chg.to_below), ?_⟩; have hp := hp.below hpc.chg.to_below; clear hpc
    obtain ⟨r19, qr19, h⟩ := bd_e h
    refine k_call [.agg (ints .u64 r12).toArray, .agg (ints .u64 r18).toArray] rfl (by kernel_rfl) (args2 rfl rfl) (field_Element_Times_ok r12 r18 l_r12 lr180 _ (hp.toR (fun _ h => by cases h)) qr19) ?_
    rintro _ w' ⟨_, rfl, rfl, lr190, hpc⟩
    refine ⟨_, rfl, .inr (.of_below hpc.chg.to_below), ?_⟩; have hp := hp.below hpc.chg.to_below; clear hpc
    refine k_storeA (v := .agg (ints .u64 r19).toArray) 4 0 (r := ⟨g13, 0, ints .u64 r12⟩) (ints .u64 r19) (ints .u64 r19) rfl (n := 5) (by kernel_rfl) s7_e rfl rfl ((ints_length _ _).trans lr190) (ints_one _ _) hp rfl rfl rfl (Nat.le_of_eq ((Nat.zero_add _).trans ((ints_length _ _).trans l_r12).symm)) (setMany_all _ _ (((ints_length _ _).trans lr190).trans ((ints_length _ _).trans l_r12).symm)) (by decide) ?_; intro w hp
    refine k_end ?_; intro e193 qe193
    have s2_e193 : e193 2 = .pointer (some ⟨g1, 0, none⟩) := (congrFun qe193 2).trans s2_e
    have s3_e193 : e193 3 = .pointer (some ⟨g2, 0, none⟩) := (congrFun qe193 3).trans s3_e
    have s4_e193 : e193 4 = .pointer (some ⟨g3, 0, none⟩) := (congrFun qe193 4).trans s4_e
    have s7_e193 : e193 7 = .pointer (some ⟨g13, 0, none⟩) := (congrFun qe193 7).trans s7_e
    have s8_e193 : e193 8 = .pointer (some ⟨g16, 0, none⟩) := (congrFun qe193 8).trans s8_e
    clear qe193
    refine wregion_m (.tk 0 (.tk 1 (.ef 2 (.ef 3 (.ef 4 (.done)))))) [4] [(0, 0, 0), (0, 0, 0), (2, 31, 31), (5, 31, 31), (15, 31, 31)] rfl (by kernel_rfl) (by kernel_rfl) (Nat.le_of_ble_eq_true (by kernel_rfl)) (by kernel_rfl) (by kernel_rfl) ?_
    have hp := hp.drew
    refine k_loadA (n := 5) (xs := ints .u64 a1) 0 rfl (by kernel_rfl) (by kernel_rfl) s3_e193 (hp.get (j := 1) rfl) rfl rfl ((ints_length _ _).trans l_a1) (fun m v hm => by rw [Nat.zero_add]; exact hm) ?_
    refine k_loadA (n := 5) (xs := ints .u64 r19) 0 rfl (by kernel_rfl) (by kernel_rfl) s7_e193 (hp.get (j := 4) rfl) rfl rfl ((ints_length _ _).trans lr190) (fun m v hm => by rw [Nat.zero_add]; exact hm) ?_
    obtain ⟨r20, qr20, h⟩ := bd_e h
    refine k_call [.agg (ints .u64 r19).toArray, .int .i64 1] rfl (by kernel_rfl) (args2 rfl rfl) (field_Element_squared_ok k r19 1 lr190 _ (hp.toR (fun _ h => by cases h)) qr20) ?_
    rintro _ w' ⟨_, rfl, rfl, lr200, hpc⟩
    refine ⟨_, rfl, .inr (.of_below hpc.chg.to_below), ?_⟩; have hp := hp.below hpc.chg.to_below; clear hpc
    obtain ⟨r21, qr21, h⟩ := bd_e h
    refine k_call [.agg (ints .u64 a1).toArray, .agg (ints .u64 r20).toArray] rfl (by kernel_rfl) (args2 rfl rfl) (field_Element_Times_ok a1 r20 l_a1 lr200 _ (hp.toR (fun _ h => by cases h)) qr21) ?_
    rintro _ w' ⟨_, rfl, rfl, lr210, hpc⟩
    refine ⟨_, rfl, .inr (.of_below hpc.chg.to_below), ?_⟩; have hp := hp.below hpc.chg.to_below; clear hpc
    refine k_storeA (v := .agg (ints .u64 r21).toArray) 5 0 (r := ⟨g16, 0, ints .u64 r15⟩) (ints .u64 r21) (ints .u64 r21) rfl (n := 5) (by kernel_rfl) s8_e193 rfl rfl ((ints_length _ _).trans lr210) (ints_one _ _) hp rfl rfl rfl (Nat.le_of_eq ((Nat.zero_add _).trans ((ints_length _ _).trans l_r15).symm)) (setMany_all _ _ (((ints_length _ _).trans lr210).trans ((ints_length _ _).trans l_r15).symm)) (by decide) ?_; intro w hp
    refine k_end ?_; intro e194 qe194
    have s2_e194 : e194 2 = .pointer (some ⟨g1, 0, none⟩) := (congrFun qe194 2).trans s2_e193
    have s4_e194 : e194 4 = .pointer (some ⟨g3, 0, none⟩) := (congrFun qe194 4).trans s4_e193
    have s7_e194 : e194 7 = .pointer (some ⟨g13, 0, none⟩) := (congrFun qe194 7).trans s7_e193
    have s8_e194 : e194 8 = .pointer (some ⟨g16, 0, none⟩) := (congrFun qe194 8).trans s8_e193
    clear qe194
    exact hQ0 _ _ r19 r21 lr190 lr210 s2_e194 s4_e194 s7_e194 s8_e194 (hp.drop (L' := [⟨g1, 0, ints .u64 a0⟩, ⟨g2, 0, ints .u64 a1⟩, ⟨g3, 0, ints .u64 (List.replicate 5 (0 : Int))⟩, ⟨g6, 0, ints .u64 r5⟩, ⟨g13, 0, ints .u64 r19⟩, ⟨g16, 0, ints .u64 r21⟩]) (List.Sublist.refl _)) (Option.some.inj h).symm
  · replace h := br_f hb h
    refine wskip rfl ?_
    exact hQ0 _ _ r12 r15 l_r12 l_r15 s2_e s4_e s7_e s8_e (hp.drop (L' := [⟨g1, 0, ints .u64 a0⟩, ⟨g2, 0, ints .u64 a1⟩, ⟨g3, 0, ints .u64 (List.replicate 5 (0 : Int))⟩, ⟨g6, 0, ints .u64 r5⟩, ⟨g13, 0, ints .u64 r12⟩, ⟨g16, 0, ints .u64 r15⟩]) (List.Sublist.refl _)) (Option.some.inj h).symm
theorem field_Ratio.p2_ok {w0 : World} {Ws : List Wr} {Q : Exit → Env → World → Prop} (g1 g13 g16 g2 g3 g6 : Nat) (r25 : Bool) (a0 : List Int) (a1 : List Int) (r5 : List Int) (m23 : List Int) (m24 : List Int) (l_a0 : a0.length = 5) (l_a1 : a1.length = 5) (l_r5 : r5.length = 5) (l_m23 : m23.length = 5) (l_m24 : m24.length = 5) {r : List Int} (hQ0 : ∀ (e' : Env) (w' : World) (z0 : List Int), z0.length = 5 → e' 2 = .pointer (some ⟨g1, 0, none⟩) → e' 4 = .pointer (some ⟨g3, 0, none⟩) → e' 7 = .pointer (some ⟨g13, 0, none⟩) → e' 8 = .pointer (some ⟨g16, 0, none⟩) → Hp w0 Ws w' [⟨g1, 0, ints .u64 a0⟩, ⟨g2, 0, ints .u64 a1⟩, ⟨g3, 0, ints .u64 (List.replicate 5 (0 : Int))⟩, ⟨g6, 0, ints .u64 r5⟩, ⟨g13, 0, ints .u64 z0⟩, ⟨g16, 0, ints .u64 m24⟩] [] → r = (z0) → Q .normal e' w') (e : Env) (w : World) (s2_e : e 2 = .pointer (some ⟨g1, 0, none⟩)) (s4_e : e 4 = .pointer (some ⟨g3, 0, none⟩)) (s7_e : e 7 = .pointer (some ⟨g13, 0, none⟩)) (s8_e : e 8 = .pointer (some ⟨g16, 0, none⟩)) (s40_e : e 40 = .bool r25) (hp : Hp w0 Ws w [⟨g1, 0, ints .u64 a0⟩, ⟨g2, 0, ints .u64 a1⟩, ⟨g3, 0, ints .u64 (List.replicate 5 (0 : Int))⟩, ⟨g6, 0, ints .u64 r5⟩, ⟨g13, 0, ints .u64 m23⟩, ⟨g16, 0, ints .u64 m24⟩] []) (h : field_Ratio.p2 r25 m23 = some r) : Wp Try.prog Try.f27.ntmps (at_ (fbody Try.f27) [1, 1, 1, 1, 1, 0, 1]) Q e w := by
  unfold field_Ratio.p2 at h
  refine wcond (t := r25) rfl (by decide) s40_e (fun hb => ?_) (fun hb => ?_)
  · replace h := br_t hb h
    refine wregion (.tp 0 (.tk 1 (.ef 2 (.ef 3 (.done))))) [3] rfl (by kernel_rfl) (by kernel_rfl) ?_
    refine k_build (v := .agg (ints .u64 (List.replicate 5 (0 : Int))).toArray) rfl (fun _ => by kernel_rfl) ?_
    refine k_loadA (n := 5) (xs := ints .u64 m23) 0 rfl (by kernel_rfl) (by kernel_rfl) s7_e (hp.get (j := 4) rfl) rfl rfl ((ints_length _ _).trans l_m23) (fun m v hm => by rw [Nat.zero_add]; exact hm) ?_
    obtain ⟨r26, qr26, h⟩ := bd_e h
    refine k_call [.agg (ints .u64 (List.replicate 5 (0 : Int))).toArray, .agg (ints .u64 m23).toArray] rfl (by kernel_rfl) (args2 rfl rfl) (field_Element_Minus_ok (List.replicate 5 (0 : Int)) m23 List.length_replicate l_m23 _ (hp.toR (fun _ h => by cases h)) qr26) ?_
    rintro _ w' ⟨_, rfl, rfl, lr260, hpc⟩
    refine ⟨_, rfl, .inr (.of_below hpc.chg.to_below), ?_⟩; have hp := hp.below hpc.chg.to_below; clear hpc
    refine k_storeA (v := .agg (ints .u64 r26).toArray) 4 0 (r := ⟨g13, 0, ints .u64 m23⟩) (ints .u64 r26) (ints .u64 r26) rfl (n := 5) (by kernel_rfl) s7_e rfl rfl ((ints_length _ _).trans lr260) (ints_one _ _) hp rfl rfl rfl (Nat.le_of_eq ((Nat.zero_add _).trans ((ints_length _ _).trans l_m23).symm)) (setMany_all _ _ (((ints_length _ _).trans lr260).trans ((ints_length _ _).trans l_m23).symm)) (by decide) ?_; intro w hp
    refine k_end ?_; intro e197 qe197
    have s2_e197 : e197 2 = .pointer (some ⟨g1, 0, none⟩) := (congrFun qe197 2).trans s2_e
    have s4_e197 : e197 4 = .pointer (some ⟨g3, 0, none⟩) := (congrFun qe197 4).trans s4_e
    have s7_e197 : e197 7 = .pointer (some ⟨g13, 0, none⟩) := (congrFun qe197 7).trans s7_e
    have s8_e197 : e197 8 = .pointer (some ⟨g16, 0, none⟩) := (congrFun qe197 8).trans s8_e
    clear qe197
    exact hQ0 _ _ r26 lr260 s2_e197 s4_e197 s7_e197 s8_e197 (hp.drop (L' := [⟨g1, 0, ints .u64 a0⟩, ⟨g2, 0, ints .u64 a1⟩, ⟨g3, 0, ints .u64 (List.replicate 5 (0 : Int))⟩, ⟨g6, 0, ints .u64 r5⟩, ⟨g13, 0, ints .u64 r26⟩, ⟨g16, 0, ints .u64 m24⟩]) (List.Sublist.refl _)) (Option.some.inj h).symm
  · replace h := br_f hb h
    refine wskip rfl ?_
    exact hQ0 _ _ m23 l_m23 s2_e s4_e s7_e s8_e (hp.drop (L' := [⟨g1, 0, ints .u64 a0⟩, ⟨g2, 0, ints .u64 a1⟩, ⟨g3, 0, ints .u64 (List.replicate 5 (0 : Int))⟩, ⟨g6, 0, ints .u64 r5⟩, ⟨g13, 0, ints .u64 m23⟩, ⟨g16, 0, ints .u64 m24⟩]) (List.Sublist.refl _)) (Option.some.inj h).symm
theorem field_Ratio_ok (k : Nat) (a0 : List Int) (a1 : List Int) (la0 : a0.length = 5) (la1 : a1.length = 5) (w0 : World) (hp : Hp w0 [] w0 [] []) {r : List Int × Bool} (h : field_Ratio.f k a0 a1 = some r) :
    Calls Try.prog 27 [.agg (ints .u64 a0).toArray, .agg (ints .u64 a1).toArray].toArray w0 fun x w' => ∃ v, x = .returned v ∧ v = .tuple #[.agg (ints .u64 r.1).toArray, .bool r.2] ∧ r.1.length = 5 ∧ Hp w0 [] w' [] [] := by
  refine calls_in Try.func27 rfl (Nat.le_of_ble_eq_true (by kernel_rfl)) (by kernel_rfl) ?_
  intro e0 qe0
  have s0_e0 : e0 0 = .agg (ints .u64 a0).toArray := congrFun qe0 0
  have s1_e0 : e0 1 = .agg (ints .u64 a1).toArray := congrFun qe0 1
  clear qe0
  unfold field_Ratio.f at h
  refine wseq rfl ?_
  refine wregion (.ef 0 (.ef 1 (.ef 2 (.tp 3 (.done))))) [] rfl (by kernel_rfl) (by kernel_rfl) ?_
  refine k_box (v := .agg (ints .u64 a0).toArray) (ints .u64 a0) rfl s0_e0 rfl hp ?_
  intro g1 w hbg1 hp
  refine k_box (v := .agg (ints .u64 a1).toArray) (ints .u64 a1) rfl s1_e0 rfl hp ?_
  intro g2 w hbg2 hp
  refine k_alloc (ints .u64 (List.replicate 5 (0 : Int))) rfl (by kernel_rfl) hp ?_
  intro g3 w hbg3 hp
  refine k_assign (v := .bool false) rfl rfl ?_
  refine k_end ?_; intro e182 qe182
  have s2_e182 : e182 2 = .pointer (some ⟨g1, 0, none⟩) := congrFun qe182 2
  have s3_e182 : e182 3 = .pointer (some ⟨g2, 0, none⟩) := congrFun qe182 3
  have s4_e182 : e182 4 = .pointer (some ⟨g3, 0, none⟩) := congrFun qe182 4
  clear qe182
  refine wseq rfl ?_
  obtain ⟨r4, qr4, h⟩ := bd_e h
  obtain ⟨r5, qr5, h⟩ := bd_e h
  refine wcut (fun e183 w2 => ∃ g6 : Nat, r5.length = 5 ∧ e183 2 = .pointer (some ⟨g1, 0, none⟩) ∧ e183 3 = .pointer (some ⟨g2, 0, none⟩) ∧ e183 4 = .pointer (some ⟨g3, 0, none⟩) ∧ e183 6 = .pointer (some ⟨g6, 0, none⟩) ∧ Hp w0 [] w2 [⟨g1, 0, ints .u64 a0⟩, ⟨g2, 0, ints .u64 a1⟩, ⟨g3, 0, ints .u64 (List.replicate 5 (0 : Int))⟩, ⟨g6, 0, ints .u64 r5⟩] []) ?_ ?_
  rotate_left
  · refine wregion_m (.tk 0 (.tk 2 (.alt (.ef 1 (.alt (.ef 3 (.ef 4 (.ef 5 (.done)))) (.ef 4 (.ef 3 (.ef 5 (.done)))))) (.ef 4 (.ef 1 (.ef 3 (.ef 5 (.done)))))))) [5] [(0, 0, 0), (1, 63, 63), (0, 0, 0), (6, 63, 63), (0, 63, 63), (31, 63, 63)] rfl (by kernel_rfl) (by kernel_rfl) (Nat.le_of_ble_eq_true (by kernel_rfl)) (by kernel_rfl) (by kernel_rfl) ?_
    have hp := hp.drew
    refine k_loadA (n := 5) (xs := ints .u64 a1) 0 rfl (by kernel_rfl) (by kernel_rfl) s3_e182 (hp.get (j := 1) rfl) rfl rfl ((ints_length _ _).trans la1) (fun m v hm => by rw [Nat.zero_add]; exact hm) ?_
    refine k_loadA (n := 5) (xs := ints .u64 a1) 0 rfl (by kernel_rfl) (by kernel_rfl) s3_e182 (hp.get (j := 1) rfl) rfl rfl ((ints_length _ _).trans la1) (fun m v hm => by rw [Nat.zero_add]; exact hm) ?_
    refine k_alt ?_ ?_
    ·
      refine k_call [.agg (ints .u64 a1).toArray, .int .i64 1] rfl (by kernel_rfl) (args2 rfl rfl) (field_Element_squared_ok k a1 1 la1 _ (hp.toR (fun _ h => by cases h)) qr4) ?_
      rintro _ w' ⟨_, rfl, rfl, lr40, hpc⟩
      refine ⟨_, rfl, .inr (.of_below hpc.chg.to_below), ?_⟩; have hp := hp.below hpc.chg.to_below; clear hpc
      refine k_alt ?_ ?_
      ·
        refine k_call [.agg (ints .u64 r4).toArray, .agg (ints .u64 a1).toArray] rfl (by kernel_rfl) (args2 rfl rfl) (field_Element_Times_ok r4 a1 lr40 la1 _ (hp.toR (fun _ h => by cases h)) qr5) ?_
        rintro _ w' ⟨_, rfl, rfl, lr50, hpc⟩
        refine ⟨_, rfl, .inr (.of_below hpc.chg.to_below), ?_⟩; have hp := hp.below hpc.chg.to_below; clear hpc
        refine k_alloc (ints .u64 (List.replicate 5 (0 : Int))) rfl (by kernel_rfl) hp ?_
        intro g6 w hbg6 hp
        refine k_storeA (v := .agg (ints .u64 r5).toArray) 3 0 (r := ⟨g6, 0, ints .u64 (List.replicate 5 (0 : Int))⟩) (ints .u64 r5) (ints .u64 r5) rfl (n := 5) (by kernel_rfl) rfl rfl rfl ((ints_length _ _).trans lr50) (ints_one _ _) hp rfl rfl rfl (Nat.le_of_eq ((Nat.zero_add _).trans ((ints_length _ _).trans List.length_replicate).symm)) (setMany_all _ _ (((ints_length _ _).trans lr50).trans ((ints_length _ _).trans List.length_replicate).symm)) (by decide) ?_; intro w hp
        refine k_endI ?_; intro e183 qe183
        exact ⟨g6, lr50, (congrFun qe183 2).trans s2_e182, (congrFun qe183 3).trans s3_e182, (congrFun qe183 4).trans s4_e182, congrFun qe183 6, hp⟩
      refine k_alloc (ints .u64 (List.replicate 5 (0 : Int))) rfl (by kernel_rfl) hp ?_
      intro g6 w hbg6 hp
      refine k_call [.agg (ints .u64 r4).toArray, .agg (ints .u64 a1).toArray] rfl (by kernel_rfl) (args2 rfl rfl) (field_Element_Times_ok r4 a1 lr40 la1 _ (hp.toR (fun _ h => by cases h)) qr5) ?_
      rintro _ w' ⟨_, rfl, rfl, lr50, hpc⟩
      refine ⟨_, rfl, .inr (.of_below hpc.chg.to_below), ?_⟩; have hp := hp.below hpc.chg.to_below; clear hpc
      refine k_storeA (v := .agg (ints .u64 r5).toArray) 3 0 (r := ⟨g6, 0, ints .u64 (List.replicate 5 (0 : Int))⟩) (ints .u64 r5) (ints .u64 r5) rfl (n := 5) (by kernel_rfl) rfl rfl rfl ((ints_length _ _).trans lr50) (ints_one _ _) hp rfl rfl rfl (Nat.le_of_eq ((Nat.zero_add _).trans ((ints_length _ _).trans List.length_replicate).symm)) (setMany_all _ _ (((ints_length _ _).trans lr50).trans ((ints_length _ _).trans List.length_replicate).symm)) (by decide) ?_; intro w hp
      refine k_endI ?_; intro e183 qe183
      exact ⟨g6, lr50, (congrFun qe183 2).trans s2_e182, (congrFun qe183 3).trans s3_e182, (congrFun qe183 4).trans s4_e182, congrFun qe183 6, hp⟩
    refine k_alloc (ints .u64 (List.replicate 5 (0 : Int))) rfl (by kernel_rfl) hp ?_
    intro g6 w hbg6 hp
    refine k_call [.agg (ints .u64 a1).toArray, .int .i64 1] rfl (by kernel_rfl) (args2 rfl rfl) (field_Element_squared_ok k a1 1 la1 _ (hp.toR (fun _ h => by cases h)) qr4) ?_
    rintro _ w' ⟨_, rfl, rfl, lr40, hpc⟩
    refine ⟨_, rfl, .inr (.of_below hpc.chg.to_below), ?_⟩; have hp := hp.below hpc.chg.to_below; clear hpc
    refine k_call [.agg (ints .u64 r4).toArray, .agg (ints .u64 a1).toArray] rfl (by kernel_rfl) (args2 rfl rfl) (field_Element_Times_ok r4 a1 lr40 la1 _ (hp.toR (fun _ h => by cases h)) qr5) ?_
    rintro _ w' ⟨_, rfl, rfl, lr50, hpc⟩
    refine ⟨_, rfl, .inr (.of_below hpc.chg.to_below), ?_⟩; have hp := hp.below hpc.chg.to_below; clear hpc
    refine k_storeA (v := .agg (ints .u64 r5).toArray) 3 0 (r := ⟨g6, 0, ints .u64 (List.replicate 5 (0 : Int))⟩) (ints .u64 r5) (ints .u64 r5) rfl (n := 5) (by kernel_rfl) rfl rfl rfl ((ints_length _ _).trans lr50) (ints_one _ _) hp rfl rfl rfl (Nat.le_of_eq ((Nat.zero_add _).trans ((ints_length _ _).trans List.length_replicate).symm)) (setMany_all _ _ (((ints_length _ _).trans lr50).trans ((ints_length _ _).trans List.length_replicate).symm)) (by decide) ?_; intro w hp
    refine k_endI ?_; intro e183 qe183
    exact ⟨g6, lr50, (congrFun qe183 2).trans s2_e182, (congrFun qe183 3).trans s3_e182, (congrFun qe183 4).trans s4_e182, congrFun qe183 6, hp⟩
  rintro e183 w ⟨g6, lr50, s2_e183, s3_e183, s4_e183, s6_e183, hp⟩
  refine wseq rfl ?_
  obtain ⟨r7, qr7, h⟩ := bd_e h
  obtain ⟨r8, qr8, h⟩ := bd_e h
  obtain ⟨r9, qr9, h⟩ := bd_e h
  obtain ⟨r10, qr10, h⟩ := bd_e h
  obtain ⟨r11, qr11, h⟩ := bd_e h
  obtain ⟨r12, qr12, h⟩ := bd_e h
  refine wcut (fun e184 w2 => ∃ g13 : Nat, r12.length = 5 ∧ e184 2 = .pointer (some ⟨g1, 0, none⟩) ∧ e184 3 = .pointer (some ⟨g2, 0, none⟩) ∧ e184 4 = .pointer (some ⟨g3, 0, none⟩) ∧ e184 7 = .pointer (some ⟨g13, 0, none⟩) ∧ Hp w0 [] w2 [⟨g1, 0, ints .u64 a0⟩, ⟨g2, 0, ints .u64 a1⟩, ⟨g3, 0, ints .u64 (List.replicate 5 (0 : Int))⟩, ⟨g6, 0, ints .u64 r5⟩, ⟨g13, 0, ints .u64 r12⟩] []) ?_ ?_
  rotate_left
  · refine wregion_m (.tk 0 (.tk 1 (.tk 3 (.tk 4 (.tk 7 (.alt (.ef 2 (.alt (.ef 5 (.alt (.ef 6 (.alt (.ef 8 (.alt (.ef 9 (.alt (.ef 10 (.ef 11 (.ef 12 (.done)))) (.ef 11 (.ef 10 (.ef 12 (.done)))))) (.ef 11 (.ef 9 (.ef 10 (.ef 12 (.done))))))) (.ef 11 (.ef 8 (.ef 9 (.ef 10 (.ef 12 (.done)))))))) (.ef 11 (.ef 6 (.ef 8 (.ef 9 (.ef 10 (.ef 12 (.done))))))))) (.ef 11 (.ef 5 (.ef 6 (.ef 8 (.ef 9 (.ef 10 (.ef 12 (.done)))))))))) (.ef 11 (.ef 2 (.ef 5 (.ef 6 (.ef 8 (.ef 9 (.ef 10 (.ef 12 (.done))))))))))))))) [12] [(0, 0, 0), (0, 0, 0), (3, 8191, 8191), (0, 0, 0), (0, 0, 0), (20, 8191, 8191), (40, 8191, 8191), (0, 0, 0), (192, 8191, 8191), (256, 8191, 8191), (516, 8191, 8191), (0, 8191, 8191), (4095, 8191, 8191)] rfl (by kernel_rfl) (by kernel_rfl) (Nat.le_of_ble_eq_true (by kernel_rfl)) (by kernel_rfl) (by kernel_rfl) ?_
    have hp := hp.drew
    refine k_join (p := (.ef 12 (.done))) (A := fun ej wj => ∃ g13 : Nat, r12.length = 5 ∧ ej 2 = .pointer (some ⟨g1, 0, none⟩) ∧ ej 3 = .pointer (some ⟨g2, 0, none⟩) ∧ ej 4 = .pointer (some ⟨g3, 0, none⟩) ∧ ej 7 = .pointer (some ⟨g13, 0, none⟩) ∧ ej 23 = .agg (ints .u64 r12).toArray ∧ Hp w0 [] wj [⟨g1, 0, ints .u64 a0⟩, ⟨g2, 0, ints .u64 a1⟩, ⟨g3, 0, ints .u64 (List.replicate 5 (0 : Int))⟩, ⟨g6, 0, ints .u64 r5⟩, ⟨g13, 0, ints .u64 (List.replicate 5 (0 : Int))⟩] []) ?_ (fun T185 => ?_)
    · rintro ej185 w ⟨g13, lr120, f2_185, f3_185, f4_185, f7_185, f23_185, hp⟩
      refine k_storeA (v := .agg (ints .u64 r12).toArray) 4 0 (r := ⟨g13, 0, ints .u64 (List.replicate 5 (0 : Int))⟩) (ints .u64 r12) (ints .u64 r12) rfl (n := 5) (by kernel_rfl) f7_185 f23_185 rfl ((ints_length _ _).trans lr120) (ints_one _ _) hp rfl rfl rfl (Nat.le_of_eq ((Nat.zero_add _).trans ((ints_length _ _).trans List.length_replicate).symm)) (setMany_all _ _ (((ints_length _ _).trans lr120).trans ((ints_length _ _).trans List.length_replicate).symm)) (by decide) ?_; intro w hp
      refine k_endI ?_; intro e184 qe184
      exact ⟨g13, lr120, (congrFun qe184 2).trans f2_185, (congrFun qe184 3).trans f3_185, (congrFun qe184 4).trans f4_185, (congrFun qe184 7).trans f7_185, hp⟩
    refine k_join (p := (.ef 10 (.ef 12 (.done)))) (A := fun ej wj => ∃ g13 : Nat, r7.length = 5 ∧ r11.length = 5 ∧ ej 2 = .pointer (some ⟨g1, 0, none⟩) ∧ ej 3 = .pointer (some ⟨g2, 0, none⟩) ∧ ej 4 = .pointer (some ⟨g3, 0, none⟩) ∧ ej 7 = .pointer (some ⟨g13, 0, none⟩) ∧ ej 15 = .agg (ints .u64 r7).toArray ∧ ej 22 = .agg (ints .u64 r11).toArray ∧ Hp w0 [] wj [⟨g1, 0, ints .u64 a0⟩, ⟨g2, 0, ints .u64 a1⟩, ⟨g3, 0, ints .u64 (List.replicate 5 (0 : Int))⟩, ⟨g6, 0, ints .u64 r5⟩, ⟨g13, 0, ints .u64 (List.replicate 5 (0 : Int))⟩] []) ?_ (fun T186 => ?_)
    · rintro ej186 w ⟨g13, lr70, lr110, f2_186, f3_186, f4_186, f7_186, f15_186, f22_186, hp⟩
      refine k_call [.agg (ints .u64 r7).toArray, .agg (ints .u64 r11).toArray] rfl (by kernel_rfl) (args2 f15_186 f22_186) (field_Element_Times_ok r7 r11 lr70 lr110 _ (hp.toR (fun _ h => by cases h)) qr12) ?_
      rintro _ w' ⟨_, rfl, rfl, lr120, hpc⟩
      refine ⟨_, rfl, .inr (.of_below hpc.chg.to_below), ?_⟩; have hp := hp.below hpc.chg.to_below; clear hpc
      exact T185 _ _ ⟨g13, lr120, f2_186, f3_186, f4_186, f7_186, rfl, hp⟩
    refine k_join (p := (.ef 9 (.ef 10 (.ef 12 (.done))))) (A := fun ej wj => ∃ g13 : Nat, r7.length = 5 ∧ r10.length = 5 ∧ ej 2 = .pointer (some ⟨g1, 0, none⟩) ∧ ej 3 = .pointer (some ⟨g2, 0, none⟩) ∧ ej 4 = .pointer (some ⟨g3, 0, none⟩) ∧ ej 7 = .pointer (some ⟨g13, 0, none⟩) ∧ ej 15 = .agg (ints .u64 r7).toArray ∧ ej 21 = .agg (ints .u64 r10).toArray ∧ Hp w0 [] wj [⟨g1, 0, ints .u64 a0⟩, ⟨g2, 0, ints .u64 a1⟩, ⟨g3, 0, ints .u64 (List.replicate 5 (0 : Int))⟩, ⟨g6, 0, ints .u64 r5⟩, ⟨g13, 0, ints .u64 (List.replicate 5 (0 : Int))⟩] []) ?_ (fun T187 => ?_)
    · rintro ej187 w ⟨g13, lr70, lr100, f2_187, f3_187, f4_187, f7_187, f15_187, f21_187, hp⟩
      refine k_call [.agg (ints .u64 r10).toArray] rfl (by kernel_rfl) (args1 f21_187) (field_Element_Power58_ok k r10 lr100 _ (hp.toR (fun _ h => by cases h)) qr11) ?_
      rintro _ w' ⟨_, rfl, rfl, lr110, hpc⟩
      refine ⟨_, rfl, .inr (.of_below hpc.chg.to_below), ?_⟩; have hp := hp.below hpc.chg.to_below; clear hpc
      exact T186 _ _ ⟨g13, lr70, lr110, f2_187, f3_187, f4_187, f7_187, f15_187, rfl, hp⟩
    refine k_join (p := (.ef 8 (.ef 9 (.ef 10 (.ef 12 (.done)))))) (A := fun ej wj => ∃ g13 : Nat, r7.length = 5 ∧ r9.length = 5 ∧ ej 2 = .pointer (some ⟨g1, 0, none⟩) ∧ ej 3 = .pointer (some ⟨g2, 0, none⟩) ∧ ej 4 = .pointer (some ⟨g3, 0, none⟩) ∧ ej 7 = .pointer (some ⟨g13, 0, none⟩) ∧ ej 15 = .agg (ints .u64 r7).toArray ∧ ej 19 = .agg (ints .u64 r9).toArray ∧ ej 20 = .agg (ints .u64 a1).toArray ∧ Hp w0 [] wj [⟨g1, 0, ints .u64 a0⟩, ⟨g2, 0, ints .u64 a1⟩, ⟨g3, 0, ints .u64 (List.replicate 5 (0 : Int))⟩, ⟨g6, 0, ints .u64 r5⟩, ⟨g13, 0, ints .u64 (List.replicate 5 (0 : Int))⟩] []) ?_ (fun T188 => ?_)
    · rintro ej188 w ⟨g13, lr70, lr90, f2_188, f3_188, f4_188, f7_188, f15_188, f19_188, f20_188, hp⟩
      refine k_call [.agg (ints .u64 r9).toArray, .agg (ints .u64 a1).toArray] rfl (by kernel_rfl) (args2 f19_188 f20_188) (field_Element_Times_ok r9 a1 lr90 la1 _ (hp.toR (fun _ h => by cases h)) qr10) ?_
      rintro _ w' ⟨_, rfl, rfl, lr100, hpc⟩
      refine ⟨_, rfl, .inr (.of_below hpc.chg.to_below), ?_⟩; have hp := hp.below hpc.chg.to_below; clear hpc
      exact T187 _ _ ⟨g13, lr70, lr100, f2_188, f3_188, f4_188, f7_188, f15_188, rfl, hp⟩
    refine k_join (p := (.ef 6 (.ef 8 (.ef 9 (.ef 10 (.ef 12 (.done))))))) (A := fun ej wj => ∃ g13 : Nat, r7.length = 5 ∧ r8.length = 5 ∧ ej 2 = .pointer (some ⟨g1, 0, none⟩) ∧ ej 3 = .pointer (some ⟨g2, 0, none⟩) ∧ ej 4 = .pointer (some ⟨g3, 0, none⟩) ∧ ej 7 = .pointer (some ⟨g13, 0, none⟩) ∧ ej 15 = .agg (ints .u64 r7).toArray ∧ ej 16 = .agg (ints .u64 a0).toArray ∧ ej 18 = .agg (ints .u64 r8).toArray ∧ ej 20 = .agg (ints .u64 a1).toArray ∧ Hp w0 [] wj [⟨g1, 0, ints .u64 a0⟩, ⟨g2, 0, ints .u64 a1⟩, ⟨g3, 0, ints .u64 (List.replicate 5 (0 : Int))⟩, ⟨g6, 0, ints .u64 r5⟩, ⟨g13, 0, ints .u64 (List.replicate 5 (0 : Int))⟩] []) ?_ (fun T189 => ?_)
    · rintro ej189 w ⟨g13, lr70, lr80, f2_189, f3_189, f4_189, f7_189, f15_189, f16_189, f18_189, f20_189, hp⟩
      refine k_call [.agg (ints .u64 a0).toArray, .agg (ints .u64 r8).toArray] rfl (by kernel_rfl) (args2 f16_189 f18_189) (field_Element_Times_ok a0 r8 la0 lr80 _ (hp.toR (fun _ h => by cases h)) qr9) ?_
      rintro _ w' ⟨_, rfl, rfl, lr90, hpc⟩
      refine ⟨_, rfl, .inr (.of_below hpc.chg.to_below), ?_⟩; have hp := hp.below hpc.chg.to_below; clear hpc
      exact T188 _ _ ⟨g13, lr70, lr90, f2_189, f3_189, f4_189, f7_189, f15_189, rfl, f20_189, hp⟩
    refine k_join (p := (.ef 5 (.ef 6 (.ef 8 (.ef 9 (.ef 10 (.ef 12 (.done)))))))) (A := fun ej wj => ∃ g13 : Nat, r7.length = 5 ∧ ej 2 = .pointer (some ⟨g1, 0, none⟩) ∧ ej 3 = .pointer (some ⟨g2, 0, none⟩) ∧ ej 4 = .pointer (some ⟨g3, 0, none⟩) ∧ ej 7 = .pointer (some ⟨g13, 0, none⟩) ∧ ej 15 = .agg (ints .u64 r7).toArray ∧ ej 16 = .agg (ints .u64 a0).toArray ∧ ej 17 = .agg (ints .u64 r5).toArray ∧ ej 20 = .agg (ints .u64 a1).toArray ∧ Hp w0 [] wj [⟨g1, 0, ints .u64 a0⟩, ⟨g2, 0, ints .u64 a1⟩, ⟨g3, 0, ints .u64 (List.replicate 5 (0 : Int))⟩, ⟨g6, 0, ints .u64 r5⟩, ⟨g13, 0, ints .u64 (List.replicate 5 (0 : Int))⟩] []) ?_ (fun T190 => ?_)
    · rintro ej190 w ⟨g13, lr70, f2_190, f3_190, f4_190, f7_190, f15_190, f16_190, f17_190, f20_190, hp⟩
      refine k_call [.agg (ints .u64 r5).toArray, .int .i64 1] rfl (by kernel_rfl) (args2 f17_190 rfl) (field_Element_squared_ok k r5 1 lr50 _ (hp.toR (fun _ h => by cases h)) qr8) ?_
      rintro _ w' ⟨_, rfl, rfl, lr80, hpc⟩
      refine ⟨_, rfl, .inr (.of_below hpc.chg.to_below), ?_⟩; have hp := hp.below hpc.chg.to_below; clear hpc
      exact T189 _ _ ⟨g13, lr70, lr80, f2_190, f3_190, f4_190, f7_190, f15_190, f16_190, rfl, f20_190, hp⟩
    refine k_loadA (n := 5) (xs := ints .u64 a0) 0 rfl (by kernel_rfl) (by kernel_rfl) s2_e183 (hp.get (j := 0) rfl) rfl rfl ((ints_length _ _).trans la0) (fun m v hm => by rw [Nat.zero_add]; exact hm) ?_
    refine k_loadA (n := 5) (xs := ints .u64 r5) 0 rfl (by kernel_rfl) (by kernel_rfl) s6_e183 (hp.get (j := 3) rfl) rfl rfl ((ints_length _ _).trans lr50) (fun m v hm => by rw [Nat.zero_add]; exact hm) ?_
    refine k_loadA (n := 5) (xs := ints .u64 a0) 0 rfl (by kernel_rfl) (by kernel_rfl) s2_e183 (hp.get (j := 0) rfl) rfl rfl ((ints_length _ _).trans la0) (fun m v hm => by rw [Nat.zero_add]; exact hm) ?_
    refine k_loadA (n := 5) (xs := ints .u64 r5) 0 rfl (by kernel_rfl) (by kernel_rfl) s6_e183 (hp.get (j := 3) rfl) rfl rfl ((ints_length _ _).trans lr50) (fun m v hm => by rw [Nat.zero_add]; exact hm) ?_
    refine k_loadA (n := 5) (xs := ints .u64 a1) 0 rfl (by kernel_rfl) (by kernel_rfl) s3_e183 (hp.get (j := 1) rfl) rfl rfl ((ints_length _ _).trans la1) (fun m v hm => by rw [Nat.zero_add]; exact hm) ?_
    refine k_alt ?_ ?_
    ·
      refine k_call [.agg (ints .u64 a0).toArray, .agg (ints .u64 r5).toArray] rfl (by kernel_rfl) (args2 rfl rfl) (field_Element_Times_ok a0 r5 la0 lr50 _ (hp.toR (fun _ h => by cases h)) qr7) ?_
      rintro _ w' ⟨_, rfl, rfl, lr70, hpc⟩
      refine ⟨_, rfl, .inr (.of_below hpc.chg.to_below), ?_⟩; have hp := hp.below hpc.chg.to_below; clear hpc
      refine k_alt ?_ ?_
      ·
        refine k_call [.agg (ints .u64 r5).toArray, .int .i64 1] rfl (by kernel_rfl) (args2 rfl rfl) (field_Element_squared_ok k r5 1 lr50 _ (hp.toR (fun _ h => by cases h)) qr8) ?_
        rintro _ w' ⟨_, rfl, rfl, lr80, hpc⟩
        refine ⟨_, rfl, .inr (.of_below hpc.chg.to_below), ?_⟩; have hp := hp.below hpc.chg.to_below; clear hpc
        refine k_alt ?_ ?_
        ·
          refine k_call [.agg (ints .u64 a0).toArray, .agg (ints .u64 r8).toArray] rfl (by kernel_rfl) (args2 rfl rfl) (field_Element_Times_ok a0 r8 la0 lr80 _ (hp.toR (fun _ h => by cases h)) qr9) ?_
          rintro _ w' ⟨_, rfl, rfl, lr90, hpc⟩
          refine ⟨_, rfl, .inr (.of_below hpc.chg.to_below), ?_⟩; have hp := hp.below hpc.chg.to_below; clear hpc
          refine k_alt ?_ ?_
          ·
            refine k_call [.agg (ints .u64 r9).toArray, .agg (ints .u64 a1).toArray] rfl (by kernel_rfl) (args2 rfl rfl) (field_Element_Times_ok r9 a1 lr90 la1 _ (hp.toR (fun _ h => by cases h)) qr10) ?_
            rintro _ w' ⟨_, rfl, rfl, lr100, hpc⟩
            refine ⟨_, rfl, .inr (.of_below hpc.chg.to_below), ?_⟩; have hp := hp.below hpc.chg.to_below; clear hpc
            refine k_alt ?_ ?_
            ·
              refine k_call [.agg (ints .u64 r10).toArray] rfl (by kernel_rfl) (args1 rfl) (field_Element_Power58_ok k r10 lr100 _ (hp.toR (fun _ h => by cases h)) qr11) ?_
              rintro _ w' ⟨_, rfl, rfl, lr110, hpc⟩
              refine ⟨_, rfl, .inr (.of_below hpc.chg.to_below), ?_⟩; have hp := hp.below hpc.chg.to_below; clear hpc
              refine k_alt ?_ ?_
              ·
                refine k_call [.agg (ints .u64 r7).toArray, .agg (ints .u64 r11).toArray] rfl (by kernel_rfl) (args2 rfl rfl) (field_Element_Times_ok r7 r11 lr70 lr110 _ (hp.toR (fun _ h => by cases h)) qr12) ?_
                rintro _ w' ⟨_, rfl, rfl, lr120, hpc⟩
                refine ⟨_, rfl, .inr (.of_below hpc.chg.to_below), ?_⟩; have hp := hp.below hpc.chg.to_below; clear hpc
                refine k_alloc (ints .u64 (List.replicate 5 (0 : Int))) rfl (by kernel_rfl) hp ?_
                intro g13 w hbg13 hp
                exact T185 _ _ ⟨g13, lr120, s2_e183, s3_e183, s4_e183, rfl, rfl, hp⟩
              refine k_alloc (ints .u64 (List.replicate 5 (0 : Int))) rfl (by kernel_rfl) hp ?_
              intro g13 w hbg13 hp
              exact T186 _ _ ⟨g13, lr70, lr110, s2_e183, s3_e183, s4_e183, rfl, rfl, rfl, hp⟩
            refine k_alloc (ints .u64 (List.replicate 5 (0 : Int))) rfl (by kernel_rfl) hp ?_
            intro g13 w hbg13 hp
            exact T187 _ _ ⟨g13, lr70, lr100, s2_e183, s3_e183, s4_e183, rfl, rfl, rfl, hp⟩
          refine k_alloc (ints .u64 (List.replicate 5 (0 : Int))) rfl (by kernel_rfl) hp ?_
          intro g13 w hbg13 hp
          exact T188 _ _ ⟨g13, lr70, lr90, s2_e183, s3_e183, s4_e183, rfl, rfl, rfl, rfl, hp⟩
        refine k_alloc (ints .u64 (List.replicate 5 (0 : Int))) rfl (by kernel_rfl) hp ?_
        intro g13 w hbg13 hp
        exact T189 _ _ ⟨g13, lr70, lr80, s2_e183, s3_e183, s4_e183, rfl, rfl, rfl, rfl, rfl, hp⟩
      refine k_alloc (ints .u64 (List.replicate 5 (0 : Int))) rfl (by kernel_rfl) hp ?_
      intro g13 w hbg13 hp
      exact T190 _ _ ⟨g13, lr70, s2_e183, s3_e183, s4_e183, rfl, rfl, rfl, rfl, rfl, hp⟩
    refine k_alloc (ints .u64 (List.replicate 5 (0 : Int))) rfl (by kernel_rfl) hp ?_
    intro g13 w hbg13 hp
    refine k_call [.agg (ints .u64 a0).toArray, .agg (ints .u64 r5).toArray] rfl (by kernel_rfl) (args2 rfl rfl) (field_Element_Times_ok a0 r5 la0 lr50 _ (hp.toR (fun _ h => by cases h)) qr7) ?_
    rintro _ w' ⟨_, rfl, rfl, lr70, hpc⟩
    refine ⟨_, rfl, .inr (.of_below hpc.chg.to_below), ?_⟩; have hp := hp.below hpc.chg.to_below; clear hpc
    exact T190 _ _ ⟨g13, lr70, s2_e183, s3_e183, s4_e183, rfl, rfl, rfl, rfl, rfl, hp⟩
  rintro e184 w ⟨g13, lr120, s2_e184, s3_e184, s4_e184, s7_e184, hp⟩
  refine wseq rfl ?_
  obtain ⟨r14, qr14, h⟩ := bd_e h
  obtain ⟨r15, qr15, h⟩ := bd_e h
  refine wcut (fun e191 w2 => ∃ g16 : Nat, r15.length = 5 ∧ e191 2 = .pointer (some ⟨g1, 0, none⟩) ∧ e191 3 = .pointer (some ⟨g2, 0, none⟩) ∧ e191 4 = .pointer (some ⟨g3, 0, none⟩) ∧ e191 7 = .pointer (some ⟨g13, 0, none⟩) ∧ e191 8 = .pointer (some ⟨g16, 0, none⟩) ∧ Hp w0 [] w2 [⟨g1, 0, ints .u64 a0⟩, ⟨g2, 0, ints .u64 a1⟩, ⟨g3, 0, ints .u64 (List.replicate 5 (0 : Int))⟩, ⟨g6, 0, ints .u64 r5⟩, ⟨g13, 0, ints .u64 r12⟩, ⟨g16, 0, ints .u64 r15⟩] []) ?_ ?_
  rotate_left
  · refine wregion_m (.tk 0 (.tk 1 (.alt (.ef 2 (.alt (.ef 3 (.ef 4 (.ef 5 (.done)))) (.ef 4 (.ef 3 (.ef 5 (.done)))))) (.ef 4 (.ef 2 (.ef 3 (.ef 5 (.done)))))))) [5] [(0, 0, 0), (0, 0, 0), (2, 63, 63), (5, 63, 63), (0, 63, 63), (31, 63, 63)] rfl (by kernel_rfl) (by kernel_rfl) (Nat.le_of_ble_eq_true (by kernel_rfl)) (by kernel_rfl) (by kernel_rfl) ?_
    have hp := hp.drew
    refine k_loadA (n := 5) (xs := ints .u64 a1) 0 rfl (by kernel_rfl) (by kernel_rfl) s3_e184 (hp.get (j := 1) rfl) rfl rfl ((ints_length _ _).trans la1) (fun m v hm => by rw [Nat.zero_add]; exact hm) ?_
    refine k_loadA (n := 5) (xs := ints .u64 r12) 0 rfl (by kernel_rfl) (by kernel_rfl) s7_e184 (hp.get (j := 4) rfl) rfl rfl ((ints_length _ _).trans lr120) (fun m v hm => by rw [Nat.zero_add]; exact hm) ?_
    refine k_alt ?_ ?_
    ·
      refine k_call [.agg (ints .u64 r12).toArray, .int .i64 1] rfl (by kernel_rfl) (args2 rfl rfl) (field_Element_squared_ok k r12 1 lr120 _ (hp.toR (fun _ h => by cases h)) qr14) ?_
      rintro _ w' ⟨_, rfl, rfl, lr140, hpc⟩
      refine ⟨_, rfl, .inr (.of_below hpc.chg.to_below), ?_⟩; have hp := hp.below hpc.chg.to_below; clear hpc
      refine k_alt ?_ ?_
      ·
        refine k_call [.agg (ints .u64 a1).toArray, .agg (ints .u64 r14).toArray] rfl (by kernel_rfl) (args2 rfl rfl) (field_Element_Times_ok a1 r14 la1 lr140 _ (hp.toR (fun _ h => by cases h)) qr15) ?_
        rintro _ w' ⟨_, rfl, rfl, lr150, hpc⟩
        refine ⟨_, rfl, .inr (.of_below hpc.chg.to_below), ?_⟩; have hp := hp.below hpc.chg.to_below; clear hpc
        refine k_alloc (ints .u64 (List.replicate 5 (0 : Int))) rfl (by kernel_rfl) hp ?_
        intro g16 w hbg16 hp
        refine k_storeA (v := .agg (ints .u64 r15).toArray) 5 0 (r := ⟨g16, 0, ints .u64 (List.replicate 5 (0 : Int))⟩) (ints .u64 r15) (ints .u64 r15) rfl (n := 5) (by kernel_rfl) rfl rfl rfl ((ints_length _ _).trans lr150) (ints_one _ _) hp rfl rfl rfl (Nat.le_of_eq ((Nat.zero_add _).trans ((ints_length _ _).trans List.length_replicate).symm)) (setMany_all _ _ (((ints_length _ _).trans lr150).trans ((ints_length _ _).trans List.length_replicate).symm)) (by decide) ?_; intro w hp
        refine k_endI ?_; intro e191 qe191
        exact ⟨g16, lr150, (congrFun qe191 2).trans s2_e184, (congrFun qe191 3).trans s3_e184, (congrFun qe191 4).trans s4_e184, (congrFun qe191 7).trans s7_e184, congrFun qe191 8, hp⟩
      refine k_alloc (ints .u64 (List.replicate 5 (0 : Int))) rfl (by kernel_rfl) hp ?_
      intro g16 w hbg16 hp
      refine k_call [.agg (ints .u64 a1).toArray, .agg (ints .u64 r14).toArray] rfl (by kernel_rfl) (args2 rfl rfl) (field_Element_Times_ok a1 r14 la1 lr140 _ (hp.toR (fun _ h => by cases h)) qr15) ?_
      rintro _ w' ⟨_, rfl, rfl, lr150, hpc⟩
      refine ⟨_, rfl, .inr (.of_below hpc.chg.to_below), ?_⟩; have hp := hp.below hpc.chg.to_below; clear hpc
      refine k_storeA (v := .agg (ints .u64 r15).toArray) 5 0 (r := ⟨g16, 0, ints .u64 (List.replicate 5 (0 : Int))⟩) (ints .u64 r15) (ints .u64 r15) rfl (n := 5) (by kernel_rfl) rfl rfl rfl ((ints_length _ _).trans lr150) (ints_one _ _) hp rfl rfl rfl (Nat.le_of_eq ((Nat.zero_add _).trans ((ints_length _ _).trans List.length_replicate).symm)) (setMany_all _ _ (((ints_length _ _).trans lr150).trans ((ints_length _ _).trans List.length_replicate).symm)) (by decide) ?_; intro w hp
      refine k_endI ?_; intro e191 qe191
      exact ⟨g16, lr150, (congrFun qe191 2).trans s2_e184, (congrFun qe191 3).trans s3_e184, (congrFun qe191 4).trans s4_e184, (congrFun qe191 7).trans s7_e184, congrFun qe191 8, hp⟩
    refine k_alloc (ints .u64 (List.replicate 5 (0 : Int))) rfl (by kernel_rfl) hp ?_
    intro g16 w hbg16 hp
    refine k_call [.agg (ints .u64 r12).toArray, .int .i64 1] rfl (by kernel_rfl) (args2 rfl rfl) (field_Element_squared_ok k r12 1 lr120 _ (hp.toR (fun _ h => by cases h)) qr14) ?_
    rintro _ w' ⟨_, rfl, rfl, lr140, hpc⟩
    refine ⟨_, rfl, .inr (.of_below hpc.chg.to_below), ?_⟩; have hp := hp.below hpc.chg.to_below; clear hpc
    refine k_call [.agg (ints .u64 a1).toArray, .agg (ints .u64 r14).toArray] rfl (by kernel_rfl) (args2 rfl rfl) (field_Element_Times_ok a1 r14 la1 lr140 _ (hp.toR (fun _ h => by cases h)) qr15) ?_
    rintro _ w' ⟨_, rfl, rfl, lr150, hpc⟩
    refine ⟨_, rfl, .inr (.of_below hpc.chg.to_below), ?_⟩; have hp := hp.below hpc.chg.to_below; clear hpc
    refine k_storeA (v := .agg (ints .u64 r15).toArray) 5 0 (r := ⟨g16, 0, ints .u64 (List.replicate 5 (0 : Int))⟩) (ints .u64 r15) (ints .u64 r15) rfl (n := 5) (by kernel_rfl) rfl rfl rfl ((ints_length _ _).trans lr150) (ints_one _ _) hp rfl rfl rfl (Nat.le_of_eq ((Nat.zero_add _).trans ((ints_length _ _).trans List.length_replicate).symm)) (setMany_all _ _ (((ints_length _ _).trans lr150).trans ((ints_length _ _).trans List.length_replicate).symm)) (by decide) ?_; intro w hp
    refine k_endI ?_; intro e191 qe191
    exact ⟨g16, lr150, (congrFun qe191 2).trans s2_e184, (congrFun qe191 3).trans s3_e184, (congrFun qe191 4).trans s4_e184, (congrFun qe191 7).trans s7_e184, congrFun qe191 8, hp⟩
  rintro e191 w ⟨g16, lr150, s2_e191, s3_e191, s4_e191, s7_e191, s8_e191, hp⟩
  refine wseq rfl ?_
  refine wseq rfl ?_
  refine wregion (.tk 0 (.tk 1 (.ef 2 (.tp 3 (.done))))) [] rfl (by kernel_rfl) (by kernel_rfl) ?_
  refine k_loadA (n := 5) (xs := ints .u64 r15) 0 rfl (by kernel_rfl) (by kernel_rfl) s8_e191 (hp.get (j := 5) rfl) rfl rfl ((ints_length _ _).trans lr150) (fun m v hm => by rw [Nat.zero_add]; exact hm) ?_
  refine k_loadA (n := 5) (xs := ints .u64 a0) 0 rfl (by kernel_rfl) (by kernel_rfl) s2_e191 (hp.get (j := 0) rfl) rfl rfl ((ints_length _ _).trans la0) (fun m v hm => by rw [Nat.zero_add]; exact hm) ?_
  obtain ⟨r17, qr17, h⟩ := bd_e h
  refine k_call [.agg (ints .u64 r15).toArray, .agg (ints .u64 a0).toArray] rfl (by kernel_rfl) (args2 rfl rfl) (field_Element_Is_ok k r15 a0 lr150 la0 _ (hp.toR (fun _ h => by cases h)) qr17) ?_
  rintro _ w' ⟨_, rfl, rfl, hpc⟩
  refine ⟨_, rfl, .inr (.of_below hpc.chg.to_below), ?_⟩; have hp := hp.below hpc.chg.to_below; clear hpc
  refine k_not (b := r17) rfl rfl ?_
  refine k_end ?_; intro e192 qe192
  have s2_e192 : e192 2 = .pointer (some ⟨g1, 0, none⟩) := (congrFun qe192 2).trans s2_e191
  have s3_e192 : e192 3 = .pointer (some ⟨g2, 0, none⟩) := (congrFun qe192 3).trans s3_e191
  have s4_e192 : e192 4 = .pointer (some ⟨g3, 0, none⟩) := (congrFun qe192 4).trans s4_e191
  have s7_e192 : e192 7 = .pointer (some ⟨g13, 0, none⟩) := (congrFun qe192 7).trans s7_e191
  have s8_e192 : e192 8 = .pointer (some ⟨g16, 0, none⟩) := (congrFun qe192 8).trans s8_e191
  have s31_e192 : e192 31 = .bool (!r17) := congrFun qe192 31
  clear qe192
  obtain ⟨r22, qr22, h⟩ := bd_e h
  refine field_Ratio.p1_ok k g1 g13 g16 g2 g3 g6 r17 a0 a1 r5 r12 r15 la0 la1 lr50 lr120 lr150 ?hq0 e192 _ s2_e192 s3_e192 s4_e192 s7_e192 s8_e192 s31_e192 hp qr22
  case hq0 =>
    intro e195 w m23 m24 lm23 lm24 s2_e195 s4_e195 s7_e195 s8_e195 hp qq
    rw [qq] at h; clear qq
    refine wseq rfl ?_
    refine wseq rfl ?_
    refine wregion (.tk 0 (.ef 1 (.done))) [] rfl (by kernel_rfl) (by kernel_rfl) ?_
    refine k_loadA (n := 5) (xs := ints .u64 m23) 0 rfl (by kernel_rfl) (by kernel_rfl) s7_e195 (hp.get (j := 4) rfl) rfl rfl ((ints_length _ _).trans lm23) (fun m v hm => by rw [Nat.zero_add]; exact hm) ?_
    obtain ⟨r25, qr25, h⟩ := bd_e h
    refine k_call [.agg (ints .u64 m23).toArray] rfl (by kernel_rfl) (args1 rfl) (field_Element_Odd_ok k m23 lm23 _ (hp.toR (fun _ h => by cases h)) qr25) ?_
    rintro _ w' ⟨_, rfl, rfl, hpc⟩
    refine ⟨_, rfl, .inr (.of_below hpc.chg.to_below), ?_⟩; have hp := hp.below hpc.chg.to_below; clear hpc
    refine k_end ?_; intro e196 qe196
    have s2_e196 : e196 2 = .pointer (some ⟨g1, 0, none⟩) := (congrFun qe196 2).trans s2_e195
    have s4_e196 : e196 4 = .pointer (some ⟨g3, 0, none⟩) := (congrFun qe196 4).trans s4_e195
    have s7_e196 : e196 7 = .pointer (some ⟨g13, 0, none⟩) := (congrFun qe196 7).trans s7_e195
    have s8_e196 : e196 8 = .pointer (some ⟨g16, 0, none⟩) := (congrFun qe196 8).trans s8_e195
    have s40_e196 : e196 40 = .bool r25 := congrFun qe196 40
    clear qe196
    obtain ⟨r27, qr27, h⟩ := bd_e h
    refine field_Ratio.p2_ok g1 g13 g16 g2 g3 g6 r25 a0 a1 r5 m23 m24 la0 la1 lr50 lm23 lm24 ?hq0 e196 _ s2_e196 s4_e196 s7_e196 s8_e196 s40_e196 hp qr27
    case hq0 =>
      intro e198 w m28 lm28 s2_e198 s4_e198 s7_e198 s8_e198 hp qq
      rw [qq] at h; clear qq
      refine wseq rfl ?_
      obtain ⟨r29, qr29, h⟩ := bd_e h
      refine wcut (fun e199 w2 => e199 4 = .pointer (some ⟨g3, 0, none⟩) ∧ e199 5 = .bool r29 ∧ Hp w0 [] w2 [⟨g1, 0, ints .u64 a0⟩, ⟨g2, 0, ints .u64 a1⟩, ⟨g3, 0, ints .u64 m28⟩, ⟨g6, 0, ints .u64 r5⟩, ⟨g13, 0, ints .u64 m28⟩, ⟨g16, 0, ints .u64 m24⟩] []) ?_ ?_
      rotate_left
      · refine wregion_m (.tk 0 (.alt (.ef 1 (.ef 2 (.ef 3 (.ef 4 (.tp 5 (.done)))))) (.ef 2 (.ef 1 (.ef 3 (.ef 4 (.tp 5 (.done)))))))) [4] [(0, 0, 0), (0, 63, 63), (0, 63, 63), (6, 63, 63), (9, 63, 63), (31, 8, 63)] rfl (by kernel_rfl) (by kernel_rfl) (Nat.le_of_ble_eq_true (by kernel_rfl)) (by kernel_rfl) (by kernel_rfl) ?_
        have hp := hp.drew
        refine k_loadA (n := 5) (xs := ints .u64 m28) 0 rfl (by kernel_rfl) (by kernel_rfl) s7_e198 (hp.get (j := 4) rfl) rfl rfl ((ints_length _ _).trans lm28) (fun m v hm => by rw [Nat.zero_add]; exact hm) ?_
        refine k_alt ?_ ?_
        ·
          refine tk_ef ?_
          refine k_loadA (n := 5) (xs := ints .u64 m24) 0 rfl (by kernel_rfl) (by kernel_rfl) s8_e198 (hp.get (j := 5) rfl) rfl rfl ((ints_length _ _).trans lm24) (fun m v hm => by rw [Nat.zero_add]; exact hm) ?_
          refine tk_ef ?_
          refine k_loadA (n := 5) (xs := ints .u64 a0) 0 rfl (by kernel_rfl) (by kernel_rfl) s2_e198 (hp.get (j := 0) rfl) rfl rfl ((ints_length _ _).trans la0) (fun m v hm => by rw [Nat.zero_add]; exact hm) ?_
          refine k_call [.agg (ints .u64 m24).toArray, .agg (ints .u64 a0).toArray] rfl (by kernel_rfl) (args2 rfl rfl) (field_Element_Is_ok k m24 a0 lm24 la0 _ (hp.toR (fun _ h => by cases h)) qr29) ?_
          rintro _ w' ⟨_, rfl, rfl, hpc⟩
          refine ⟨_, rfl, .inr (.of_below hpc.chg.to_below), ?_⟩; have hp := hp.below hpc.chg.to_below; clear hpc
          refine k_storeA (v := .agg (ints .u64 m28).toArray) 2 0 (r := ⟨g3, 0, ints .u64 (List.replicate 5 (0 : Int))⟩) (ints .u64 m28) (ints .u64 m28) rfl (n := 5) (by kernel_rfl) s4_e198 rfl rfl ((ints_length _ _).trans lm28) (ints_one _ _) hp rfl rfl rfl (Nat.le_of_eq ((Nat.zero_add _).trans ((ints_length _ _).trans List.length_replicate).symm)) (setMany_all _ _ (((ints_length _ _).trans lm28).trans ((ints_length _ _).trans List.length_replicate).symm)) (by decide) ?_; intro w hp
          refine k_assign (v := .bool r29) rfl rfl ?_
          refine k_endI ?_; intro e199 qe199
          exact ⟨(congrFun qe199 4).trans s4_e198, congrFun qe199 5, hp⟩
        refine tk_ef ?_
        refine k_loadA (n := 5) (xs := ints .u64 a0) 0 rfl (by kernel_rfl) (by kernel_rfl) s2_e198 (hp.get (j := 0) rfl) rfl rfl ((ints_length _ _).trans la0) (fun m v hm => by rw [Nat.zero_add]; exact hm) ?_
        refine tk_ef ?_
        refine k_loadA (n := 5) (xs := ints .u64 m24) 0 rfl (by kernel_rfl) (by kernel_rfl) s8_e198 (hp.get (j := 5) rfl) rfl rfl ((ints_length _ _).trans lm24) (fun m v hm => by rw [Nat.zero_add]; exact hm) ?_
        refine k_call [.agg (ints .u64 m24).toArray, .agg (ints .u64 a0).toArray] rfl (by kernel_rfl) (args2 rfl rfl) (field_Element_Is_ok k m24 a0 lm24 la0 _ (hp.toR (fun _ h => by cases h)) qr29) ?_
        rintro _ w' ⟨_, rfl, rfl, hpc⟩
        refine ⟨_, rfl, .inr (.of_below hpc.chg.to_below), ?_⟩; have hp := hp.below hpc.chg.to_below; clear hpc
        refine k_storeA (v := .agg (ints .u64 m28).toArray) 2 0 (r := ⟨g3, 0, ints .u64 (List.replicate 5 (0 : Int))⟩) (ints .u64 m28) (ints .u64 m28) rfl (n := 5) (by kernel_rfl) s4_e198 rfl rfl ((ints_length _ _).trans lm28) (ints_one _ _) hp rfl rfl rfl (Nat.le_of_eq ((Nat.zero_add _).trans ((ints_length _ _).trans List.length_replicate).symm)) (setMany_all _ _ (((ints_length _ _).trans lm28).trans ((ints_length _ _).trans List.length_replicate).symm)) (by decide) ?_; intro w hp
        refine k_assign (v := .bool r29) rfl rfl ?_
        refine k_endI ?_; intro e199 qe199
        exact ⟨(congrFun qe199 4).trans s4_e198, congrFun qe199 5, hp⟩
      rintro e199 w ⟨s4_e199, s5_e199, hp⟩
      refine wret rfl ?_
      have hr : r = (m28, r29) := (Option.some.inj h).symm
      show RetP _ _ _ _ _
      rw [hr]
      exact ret_i [.agg (ints .u64 m28).toArray, .bool r29] (res_cell s4_e199 (loadVar_agg (by kernel_rfl) (by kernel_rfl) ((ints_length _ _).trans lm28) (hp.get (j := 2) rfl) rfl rfl rfl) (res_tmp s5_e199 res_nil)) ⟨rfl, lm28, hp.none⟩
/-! 14 postilion/field.Sqrt -/
theorem field_Sqrt_ok (k : Nat) (a0 : List Int) (la0 : a0.length = 32) (w0 : World) (hp : Hp w0 [] w0 [] []) {r : List Int × Int} (h : field_Sqrt.f k a0 = some r) :
    Calls Try.prog 14 [.agg (ints .u8 a0).toArray].toArray w0 fun x w' => ∃ v, x = .returned v ∧ v = .tuple #[.agg (ints .u8 r.1).toArray, .int .i64 r.2] ∧ r.1.length = 32 ∧ Hp w0 [] w' [] [] := by
  refine calls_in Try.func14 rfl (Nat.le_of_ble_eq_true (by kernel_rfl)) (by kernel_rfl) ?_
  intro e0 qe0
  have s0_e0 : e0 0 = .agg (ints .u8 a0).toArray := congrFun qe0 0
  clear qe0
  unfold field_Sqrt.f at h
  refine wseq rfl ?_
  refine wregion (.ef 0 (.ef 1 (.tp 2 (.done)))) [] rfl (by kernel_rfl) (by kernel_rfl) ?_
  refine k_box (v := .agg (ints .u8 a0).toArray) (ints .u8 a0) rfl s0_e0 rfl hp ?_
  intro g1 w hbg1 hp
  refine k_alloc (ints .u8 (List.replicate 32 (0 : Int))) rfl (by kernel_rfl) hp ?_
  intro g2 w hbg2 hp
  refine k_assign (v := .int .i64 0) rfl rfl ?_
  refine k_end ?_; intro e200 qe200
  have s1_e200 : e200 1 = .pointer (some ⟨g1, 0, none⟩) := congrFun qe200 1
  have s2_e200 : e200 2 = .pointer (some ⟨g2, 0, none⟩) := congrFun qe200 2
  clear qe200
  refine wseq rfl ?_
  refine wregion (.tk 0 (.ef 1 (.ef 2 (.ef 3 (.tp 4 (.tp 5 (.tp 6 (.ef 7 (.ef 8 (.tp 9 (.done))))))))))) [8] rfl (by kernel_rfl) (by kernel_rfl) ?_
  refine k_loadA (n := 32) (xs := ints .u8 a0) 0 rfl (by kernel_rfl) (by kernel_rfl) s1_e200 (hp.get (j := 0) rfl) rfl rfl ((ints_length _ _).trans la0) (fun m v hm => by rw [Nat.zero_add]; exact hm) ?_
  obtain ⟨r3, qr3, h⟩ := bd_e h
  refine k_call [.agg (ints .u8 a0).toArray] rfl (by kernel_rfl) (args1 rfl) (field_Of_ok k a0 la0 _ (hp.toR (fun _ h => by cases h)) qr3) ?_
  rintro _ w' ⟨_, rfl, rfl, lr30, hpc⟩
  refine ⟨_, rfl, .inr (.of_below hpc.chg.to_below), ?_⟩; have hp := hp.below hpc.chg.to_below; clear hpc
  obtain ⟨r4, qr4, h⟩ := bd_e h
  refine k_call [] rfl (by kernel_rfl) (args0 ) (field_One_ok   _ (hp.toR (fun _ h => by cases h)) qr4) ?_
  rintro _ w' ⟨_, rfl, rfl, lr40, hpc⟩
  refine ⟨_, rfl, .inr (.of_below hpc.chg.to_below), ?_⟩; have hp := hp.below hpc.chg.to_below; clear hpc
  obtain ⟨r5, qr5, h⟩ := bd_e h
  refine k_call [.agg (ints .u64 r3).toArray, .agg (ints .u64 r4).toArray] rfl (by kernel_rfl) (args2 rfl rfl) (field_Ratio_ok k r3 r4 lr30 lr40 _ (hp.toR (fun _ h => by cases h)) qr5) ?_
  rintro _ w' ⟨_, rfl, rfl, lr50, hpc⟩
  refine ⟨_, rfl, .inr (.of_below hpc.chg.to_below), ?_⟩; have hp := hp.below hpc.chg.to_below; clear hpc
  refine k_move (v := .tuple #[.agg (ints .u64 r5.1).toArray, .bool r5.2]) rfl rfl ?_
  refine k_extract (v := .agg (ints .u64 r5.1).toArray) rfl rfl rfl ?_
  refine k_extract (v := .bool r5.2) rfl rfl rfl ?_
  refine k_alloc (ints .u64 (List.replicate 5 (0 : Int))) rfl (by kernel_rfl) hp ?_
  intro g6 w hbg6 hp
  refine k_storeA (v := .agg (ints .u64 r5.1).toArray) 2 0 (r := ⟨g6, 0, ints .u64 (List.replicate 5 (0 : Int))⟩) (ints .u64 r5.1) (ints .u64 r5.1) rfl (n := 5) (by kernel_rfl) rfl rfl rfl ((ints_length _ _).trans lr50) (ints_one _ _) hp rfl rfl rfl (Nat.le_of_eq ((Nat.zero_add _).trans ((ints_length _ _).trans List.length_replicate).symm)) (setMany_all _ _ (((ints_length _ _).trans lr50).trans ((ints_length _ _).trans List.length_replicate).symm)) (by decide) ?_; intro w hp
  refine k_assign (v := .bool r5.2) rfl rfl ?_
  refine k_end ?_; intro e201 qe201
  have s2_e201 : e201 2 = .pointer (some ⟨g2, 0, none⟩) := (congrFun qe201 2).trans s2_e200
  have s4_e201 : e201 4 = .pointer (some ⟨g6, 0, none⟩) := congrFun qe201 4
  have s5_e201 : e201 5 = .bool r5.2 := congrFun qe201 5
  clear qe201
  refine wseq rfl ?_
  refine wseq rfl ?_
  refine wregion (.tp 0 (.tp 1 (.done))) [] rfl (by kernel_rfl) (by kernel_rfl) ?_
  refine k_move (v := .bool r5.2) rfl s5_e201 ?_
  refine k_not (b := r5.2) rfl rfl ?_
  refine k_end ?_; intro e202 qe202
  have s2_e202 : e202 2 = .pointer (some ⟨g2, 0, none⟩) := (congrFun qe202 2).trans s2_e201
  have s4_e202 : e202 4 = .pointer (some ⟨g6, 0, none⟩) := (congrFun qe202 4).trans s4_e201
  have s14_e202 : e202 14 = .bool (!r5.2) := congrFun qe202 14
  clear qe202
  refine wcond (t := (!r5.2)) rfl (by decide) s14_e202 (fun hb => ?_) (fun hb => ?_)
  · replace h := br_t hb h
    refine wseq rfl ?_
    refine wregion (.tp 0 (.ef 1 (.tp 2 (.done)))) [1] rfl (by kernel_rfl) (by kernel_rfl) ?_
    refine k_build (v := .agg (ints .u8 (List.replicate 32 (0 : Int))).toArray) rfl (fun _ => by kernel_rfl) ?_
    refine k_storeA (v := .agg (ints .u8 (List.replicate 32 (0 : Int))).toArray) 1 0 (r := ⟨g2, 0, ints .u8 (List.replicate 32 (0 : Int))⟩) (ints .u8 (List.replicate 32 (0 : Int))) (ints .u8 (List.replicate 32 (0 : Int))) rfl (n := 32) (by kernel_rfl) s2_e202 rfl rfl ((ints_length _ _).trans List.length_replicate) (ints_one _ _) hp rfl rfl rfl (Nat.le_of_eq ((Nat.zero_add _).trans ((ints_length _ _).trans List.length_replicate).symm)) (setMany_all _ _ (((ints_length _ _).trans List.length_replicate).trans ((ints_length _ _).trans List.length_replicate).symm)) (by decide) ?_; intro w hp
    refine k_assign (v := .int .i64 3) rfl rfl ?_
    refine k_end ?_; intro e203 qe203
    have s2_e203 : e203 2 = .pointer (some ⟨g2, 0, none⟩) := (congrFun qe203 2).trans s2_e202
    have s3_e203 : e203 3 = .int .i64 3 := congrFun qe203 3
    clear qe203
    refine wret rfl ?_
    have hr : r = ((List.replicate 32 (0 : Int)), 3) := (Option.some.inj h).symm
    show RetP _ _ _ _ _
    rw [hr]
    exact ret_i [.agg (ints .u8 (List.replicate 32 (0 : Int))).toArray, .int .i64 3] (res_cell s2_e203 (loadVar_agg (by kernel_rfl) (by kernel_rfl) ((ints_length _ _).trans List.length_replicate) (hp.get (j := 1) rfl) rfl rfl rfl) (res_tmp s3_e203 res_nil)) ⟨rfl, List.length_replicate, hp.none⟩
  · replace h := br_f hb h
    refine wskip rfl ?_
    refine wseq rfl ?_
    refine wregion (.tk 0 (.ef 1 (.ef 2 (.tp 3 (.done))))) [2] rfl (by kernel_rfl) (by kernel_rfl) ?_
    refine k_loadA (n := 5) (xs := ints .u64 r5.1) 0 rfl (by kernel_rfl) (by kernel_rfl) s4_e202 (hp.get (j := 2) rfl) rfl rfl ((ints_length _ _).trans lr50) (fun m v hm => by rw [Nat.zero_add]; exact hm) ?_
    obtain ⟨r7, qr7, h⟩ := bd_e h
    refine k_call [.agg (ints .u64 r5.1).toArray] rfl (by kernel_rfl) (args1 rfl) (field_Element_Bytes_ok k r5.1 lr50 _ (hp.toR (fun _ h => by cases h)) qr7) ?_
    rintro _ w' ⟨_, rfl, rfl, lr70, hpc⟩
    refine ⟨_, rfl, .inr (.of_below hpc.chg.to_below), ?_⟩; have hp := hp.below hpc.chg.to_below; clear hpc
    refine k_storeA (v := .agg (ints .u8 r7).toArray) 1 0 (r := ⟨g2, 0, ints .u8 (List.replicate 32 (0 : Int))⟩) (ints .u8 r7) (ints .u8 r7) rfl (n := 32) (by kernel_rfl) s2_e202 rfl rfl ((ints_length _ _).trans lr70) (ints_one _ _) hp rfl rfl rfl (Nat.le_of_eq ((Nat.zero_add _).trans ((ints_length _ _).trans List.length_replicate).symm)) (setMany_all _ _ (((ints_length _ _).trans lr70).trans ((ints_length _ _).trans List.length_replicate).symm)) (by decide) ?_; intro w hp
    refine k_assign (v := .int .i64 0) rfl rfl ?_
    refine k_end ?_; intro e204 qe204
    have s2_e204 : e204 2 = .pointer (some ⟨g2, 0, none⟩) := (congrFun qe204 2).trans s2_e202
    have s3_e204 : e204 3 = .int .i64 0 := congrFun qe204 3
    clear qe204
    refine wret rfl ?_
    have hr : r = (r7, 0) := (Option.some.inj h).symm
    show RetP _ _ _ _ _
    rw [hr]
    exact ret_i [.agg (ints .u8 r7).toArray, .int .i64 0] (res_cell s2_e204 (loadVar_agg (by kernel_rfl) (by kernel_rfl) ((ints_length _ _).trans lr70) (hp.get (j := 1) rfl) rfl rfl rfl) (res_tmp s3_e204 res_nil)) ⟨rfl, lr70, hp.none⟩
/-! 6 postilion/postilionlaw04.FieldRoots -/
theorem postilionlaw04_FieldRoots.p1_ok {w0 : World} {Ws : List Wr} {Q : Exit → Env → World → Prop} (k : Nat) (g1 g4 g6 : Nat) (x7 : Int) (a0 : List Int) (r3 : List Int) (r5 : List Int × Int) (l_a0 : a0.length = 32) (l_r3 : r3.length = 32) (l_r5_1 : r5.1.length = 32) {r : Bool} (hQ0 : ∀ (e' : Env) (w' : World) (z0 : Bool), e' 1 = .pointer (some ⟨g1, 0, none⟩) → e' 46 = .bool z0 → Hp w0 Ws w' [⟨g1, 0, ints .u8 a0⟩, ⟨g4, 0, ints .u8 r3⟩, ⟨g6, 0, ints .u8 r5.1⟩] [] → r = (z0) → Q .normal e' w') (e : Env) (w : World) (s1_e : e 1 = .pointer (some ⟨g1, 0, none⟩)) (s3_e : e 3 = .pointer (some ⟨g4, 0, none⟩)) (s4_e : e 4 = .pointer (some ⟨g6, 0, none⟩)) (s5_e : e 5 = .int .i64 x7) (hp : Hp w0 Ws w [⟨g1, 0, ints .u8 a0⟩, ⟨g4, 0, ints .u8 r3⟩, ⟨g6, 0, ints .u8 r5.1⟩] []) (h : postilionlaw04_FieldRoots.p1 k x7 a0 r3 r5 = some r) : Wp Try.prog Try.f6.ntmps (at_ (fbody Try.f6) [1, 1, 1, 1, 0, 0]) Q e w := by
  unfold postilionlaw04_FieldRoots.p1 at h
  refine wregion_m (.tp 0 (.tp 1 (.tp 2 (.tp 3 (.tk 4 (.tp 5 (.tp 6 (.tp 7 (.tp 8 (.tk 9 (.tk 10 (.tk 12 (.ef 11 (.tp 13 (.tp 14 (.tp 15 (.tk 16 (.tk 17 (.tp 18 (.ef 19 (.tp 20 (.tp 21 (.tk 22 (.tp 23 (.tk 24 (.ef 25 (.tp 26 (.tp 27 (.tp 28 (.done)))))))))))))))))))))))))))))) [] [(0, 0, 536870911), (1, 1, 536870911), (2, 2, 536870911), (4, 4, 536870911), (12, 12, 0), (20, 20, 536870911), (36, 36, 536870911), (68, 68, 536870911), (132, 128, 536870911), (256, 256, 0), (256, 256, 0), (1792, 536870911, 536870911), (256, 256, 0), (6400, 6400, 536870911), (8448, 8448, 536870911), (18432, 16384, 536870911), (32768, 32768, 0), (32768, 32768, 0), (32768, 32768, 536870911), (425984, 536870911, 536870911), (622592, 622592, 536870911), (1605632, 1081344, 536870911), (2097152, 2097152, 0), (2097152, 2097152, 536870911), (2097152, 2097152, 0), (27262976, 536870911, 536870911), (39845888, 39845888, 536870911), (69238784, 69238784, 536870911), (134250496, 134250496, 536870911)] rfl (by kernel_rfl) (by kernel_rfl) (Nat.le_of_ble_eq_true (by kernel_rfl)) (by kernel_rfl) (by kernel_rfl) ?_
  have hp := hp.drew
  refine k_move (v := .int .i64 x7) rfl s5_e ?_
  refine k_bin (X := .int .i64 x7) (Y := .int .i64 0) rfl rfl rfl rfl ?_
  rcases Bool.eq_false_or_eq_true (x7 != 0) with hb | hb
  · replace h := br_t hb h
    refine k_move (v := .bool true) rfl (Eq.trans (b := .bool (x7 != 0)) rfl (congrArg Value.bool hb)) ?_
    refine k_skip rfl ?_
    refine k_skip_tk rfl ?_
    refine k_skip rfl ?_
    refine k_skip rfl ?_
    refine k_pick (b := true) (v := .bool true) rfl rfl rfl rfl rfl ?_
    refine k_move (v := .bool true) rfl rfl ?_
    refine k_skip_tk rfl ?_
    refine k_skip_tk rfl ?_
    refine k_skip_tk rfl ?_
    refine k_skip_ef rfl ?_
    refine k_skip rfl ?_
    refine k_pick (b := true) (v := .bool true) rfl rfl rfl rfl rfl ?_
    refine k_move (v := .bool true) rfl rfl ?_
    refine k_skip_tk rfl ?_
    refine k_skip_tk rfl ?_
    refine k_skip rfl ?_
    refine k_skip_ef rfl ?_
    refine k_skip rfl ?_
    refine k_skip rfl ?_
    refine k_skip_tk rfl ?_
    refine k_skip rfl ?_
    refine k_skip_tk rfl ?_
    refine k_skip_ef rfl ?_
    refine k_skip rfl ?_
    refine k_skip rfl ?_
    refine k_pick (b := true) (v := .bool true) rfl rfl rfl rfl rfl ?_
    refine k_end ?_; intro e210 qe210
    have s1_e210 : e210 1 = .pointer (some ⟨g1, 0, none⟩) := (congrFun qe210 1).trans s1_e
    have s46_e210 : e210 46 = .bool true := congrFun qe210 46
    clear qe210
    exact hQ0 _ _ true  s1_e210 s46_e210 (hp.drop (L' := [⟨g1, 0, ints .u8 a0⟩, ⟨g4, 0, ints .u8 r3⟩, ⟨g6, 0, ints .u8 r5.1⟩]) (List.Sublist.refl _)) (Option.some.inj h).symm
  · replace h := br_f hb h
    refine k_move (v := .bool false) rfl (Eq.trans (b := .bool (x7 != 0)) rfl (congrArg Value.bool hb)) ?_
    refine k_indexA (n := 32) (s := 1) (j := 0) rfl Try.underlying22 (by kernel_rfl) s4_e rfl (by decide) ?_
    refine k_load (j := 0) (v := .int .u8 (r5.1.getD 0 0)) rfl (by kernel_rfl) rfl (hp.get (j := 2) rfl) rfl rfl (ints_get (Nat.lt_of_lt_of_eq (m := 32) (by decide) (l_r5_1).symm)) ?_
    refine k_rem (a := (r5.1.getD 0 0)) (b := 2) rfl rfl rfl (by decide) ?_
    refine k_bin (X := .int .u8 (Int.tmod (r5.1.getD 0 0) 2)) (Y := .int .u8 0) rfl rfl rfl rfl ?_
    refine k_pick (b := false) (v := .bool ((Int.tmod (r5.1.getD 0 0) 2) != 0)) rfl rfl rfl rfl rfl ?_
    rcases Bool.eq_false_or_eq_true ((Int.tmod (r5.1.getD 0 0) 2) != 0) with hb | hb
    · replace h := br_t hb h
      refine k_move (v := .bool true) rfl (Eq.trans (b := .bool ((Int.tmod (r5.1.getD 0 0) 2) != 0)) rfl (congrArg Value.bool hb)) ?_
      refine k_skip_tk rfl ?_
      refine k_skip_tk rfl ?_
      refine k_skip_tk rfl ?_
      refine k_skip_ef rfl ?_
      refine k_skip rfl ?_
      refine k_pick (b := true) (v := .bool true) rfl rfl rfl rfl rfl ?_
      refine k_move (v := .bool true) rfl rfl ?_
      refine k_skip_tk rfl ?_
      refine k_skip_tk rfl ?_
      refine k_skip rfl ?_
      refine k_skip_ef rfl ?_
      refine k_skip rfl ?_
      refine k_skip rfl ?_
      refine k_skip_tk rfl ?_
      refine k_skip rfl ?_
      refine k_skip_tk rfl ?_
      refine k_skip_ef rfl ?_
      refine k_skip rfl ?_
      refine k_skip rfl ?_
      refine k_pick (b := true) (v := .bool true) rfl rfl rfl rfl rfl ?_
      refine k_end ?_; intro e211 qe211
      have s1_e211 : e211 1 = .pointer (some ⟨g1, 0, none⟩) := (congrFun qe211 1).trans s1_e
      have s46_e211 : e211 46 = .bool true := congrFun qe211 46
      clear qe211
      exact hQ0 _ _ true  s1_e211 s46_e211 (hp.drop (L' := [⟨g1, 0, ints .u8 a0⟩, ⟨g4, 0, ints .u8 r3⟩, ⟨g6, 0, ints .u8 r5.1⟩]) (List.Sublist.refl _)) (Option.some.inj h).symm
    · replace h := br_f hb h
      refine k_move (v := .bool false) rfl (Eq.trans (b := .bool ((Int.tmod (r5.1.getD 0 0) 2) != 0)) rfl (congrArg Value.bool hb)) ?_
      refine k_loadA (n := 32) (xs := ints .u8 r5.1) 0 rfl (by kernel_rfl) (by kernel_rfl) s4_e (hp.get (j := 2) rfl) rfl rfl ((ints_length _ _).trans l_r5_1) (fun m v hm => by rw [Nat.zero_add]; exact hm) ?_
      refine k_loadA (n := 32) (xs := ints .u8 r5.1) 0 rfl (by kernel_rfl) (by kernel_rfl) s4_e (hp.get (j := 2) rfl) rfl rfl ((ints_length _ _).trans l_r5_1) (fun m v hm => by rw [Nat.zero_add]; exact hm) ?_
      refine k_loadA (n := 32) (xs := ints .u8 r3) 0 rfl (by kernel_rfl) (by kernel_rfl) s3_e (hp.get (j := 1) rfl) rfl rfl ((ints_length _ _).trans l_r3) (fun m v hm => by rw [Nat.zero_add]; exact hm) ?_
      obtain ⟨r8, qr8, h⟩ := bd_e h
      refine k_call [.agg (ints .u8 r5.1).toArray, .agg (ints .u8 r5.1).toArray] rfl (by kernel_rfl) (args2 rfl rfl) (field_Mul_ok k r5.1 r5.1 l_r5_1 l_r5_1 _ (hp.toR (fun _ h => by cases h)) qr8) ?_
      rintro _ w' ⟨_, rfl, rfl, lr80, hpc⟩
      refine ⟨_, rfl, .inr (.of_below hpc.chg.to_below), ?_⟩; have hp := hp.below hpc.chg.to_below; clear hpc
      refine k_neI (k := .u8) (l := r8) (l' := r3) rfl Try.underlying22 Try.underlying5 (by kernel_rfl) (by kernel_rfl) rfl rfl lr80 l_r3 ?_
      refine k_pick (b := false) (v := .bool (!(r8 == r3))) rfl rfl rfl rfl rfl ?_
      rcases Bool.eq_false_or_eq_true (!(r8 == r3)) with hb | hb
      · replace h := br_t hb h
        refine k_move (v := .bool true) rfl (Eq.trans (b := .bool (!(r8 == r3))) rfl (congrArg Value.bool hb)) ?_
        refine k_skip_tk rfl ?_
        refine k_skip_tk rfl ?_
        refine k_skip rfl ?_
        refine k_skip_ef rfl ?_
        refine k_skip rfl ?_
        refine k_skip rfl ?_
        refine k_skip_tk rfl ?_
        refine k_skip rfl ?_
        refine k_skip_tk rfl ?_
        refine k_skip_ef rfl ?_
        refine k_skip rfl ?_
        refine k_skip rfl ?_
        refine k_pick (b := true) (v := .bool true) rfl rfl rfl rfl rfl ?_
        refine k_end ?_; intro e212 qe212
        have s1_e212 : e212 1 = .pointer (some ⟨g1, 0, none⟩) := (congrFun qe212 1).trans s1_e
        have s46_e212 : e212 46 = .bool true := congrFun qe212 46
        clear qe212
        exact hQ0 _ _ true  s1_e212 s46_e212 (hp.drop (L' := [⟨g1, 0, ints .u8 a0⟩, ⟨g4, 0, ints .u8 r3⟩, ⟨g6, 0, ints .u8 r5.1⟩]) (List.Sublist.refl _)) (Option.some.inj h).symm
      · replace h := br_f hb h
        refine k_move (v := .bool false) rfl (Eq.trans (b := .bool (!(r8 == r3))) rfl (congrArg Value.bool hb)) ?_
        refine k_loadA (n := 32) (xs := ints .u8 r5.1) 0 rfl (by kernel_rfl) (by kernel_rfl) s4_e (hp.get (j := 2) rfl) rfl rfl ((ints_length _ _).trans l_r5_1) (fun m v hm => by rw [Nat.zero_add]; exact hm) ?_
        refine k_loadA (n := 32) (xs := ints .u8 a0) 0 rfl (by kernel_rfl) (by kernel_rfl) s1_e (hp.get (j := 0) rfl) rfl rfl ((ints_length _ _).trans l_a0) (fun m v hm => by rw [Nat.zero_add]; exact hm) ?_
        refine k_build (v := .agg (ints .u8 (List.replicate 32 (0 : Int))).toArray) rfl (fun _ => by kernel_rfl) ?_
        obtain ⟨r9, qr9, h⟩ := bd_e h
        refine k_call [.agg (ints .u8 a0).toArray, .agg (ints .u8 (List.replicate 32 (0 : Int))).toArray] rfl (by kernel_rfl) (args2 rfl rfl) (field_Add_ok k a0 (List.replicate 32 (0 : Int)) l_a0 List.length_replicate _ (hp.toR (fun _ h => by cases h)) qr9) ?_
        rintro _ w' ⟨_, rfl, rfl, lr90, hpc⟩
        refine ⟨_, rfl, .inr (.of_below hpc.chg.to_below), ?_⟩; have hp := hp.below hpc.chg.to_below; clear hpc
        refine k_neI (k := .u8) (l := r5.1) (l' := r9) rfl Try.underlying22 Try.underlying5 (by kernel_rfl) (by kernel_rfl) rfl rfl l_r5_1 lr90 ?_
        rcases Bool.eq_false_or_eq_true (!(r5.1 == r9)) with hb | hb
        · replace h := br_t hb h
          refine k_move (v := .bool true) rfl (Eq.trans (b := .bool (!(r5.1 == r9))) rfl (congrArg Value.bool hb)) ?_
          refine k_loadA (n := 32) (xs := ints .u8 r5.1) 0 rfl (by kernel_rfl) (by kernel_rfl) s4_e (hp.get (j := 2) rfl) rfl rfl ((ints_length _ _).trans l_r5_1) (fun m v hm => by rw [Nat.zero_add]; exact hm) ?_
          refine k_build (v := .agg (ints .u8 (List.replicate 32 (0 : Int))).toArray) rfl (fun _ => by kernel_rfl) ?_
          refine k_loadA (n := 32) (xs := ints .u8 a0) 0 rfl (by kernel_rfl) (by kernel_rfl) s1_e (hp.get (j := 0) rfl) rfl rfl ((ints_length _ _).trans l_a0) (fun m v hm => by rw [Nat.zero_add]; exact hm) ?_
          obtain ⟨r10, qr10, h⟩ := bd_e h
          refine k_call [.agg (ints .u8 (List.replicate 32 (0 : Int))).toArray, .agg (ints .u8 a0).toArray] rfl (by kernel_rfl) (args2 rfl rfl) (field_Sub_ok k (List.replicate 32 (0 : Int)) a0 List.length_replicate l_a0 _ (hp.toR (fun _ h => by cases h)) qr10) ?_
          rintro _ w' ⟨_, rfl, rfl, lr100, hpc⟩
          refine ⟨_, rfl, .inr (.of_below hpc.chg.to_below), ?_⟩; have hp := hp.below hpc.chg.to_below; clear hpc
          refine k_neI (k := .u8) (l := r5.1) (l' := r10) rfl Try.underlying22 Try.underlying5 (by kernel_rfl) (by kernel_rfl) rfl rfl l_r5_1 lr100 ?_
          refine k_pick (b := true) (v := .bool (!(r5.1 == r10))) rfl rfl rfl rfl rfl ?_
          refine k_pick (b := false) (v := .bool (!(r5.1 == r10))) rfl rfl rfl rfl rfl ?_
          refine k_end ?_; intro e213 qe213
          have s1_e213 : e213 1 = .pointer (some ⟨g1, 0, none⟩) := (congrFun qe213 1).trans s1_e
          have s46_e213 : e213 46 = .bool (!(r5.1 == r10)) := congrFun qe213 46
          clear qe213
          exact hQ0 _ _ (!(r5.1 == r10))  s1_e213 s46_e213 (hp.drop (L' := [⟨g1, 0, ints .u8 a0⟩, ⟨g4, 0, ints .u8 r3⟩, ⟨g6, 0, ints .u8 r5.1⟩]) (List.Sublist.refl _)) (Option.some.inj h).symm
        · replace h := br_f hb h
          refine k_move (v := .bool false) rfl (Eq.trans (b := .bool (!(r5.1 == r9))) rfl (congrArg Value.bool hb)) ?_
          refine k_skip_tk rfl ?_
          refine k_skip rfl ?_
          refine k_skip_tk rfl ?_
          refine k_skip_ef rfl ?_
          refine k_skip rfl ?_
          refine k_pick (b := false) (v := .bool false) rfl rfl rfl rfl rfl ?_
          refine k_pick (b := false) (v := .bool false) rfl rfl rfl rfl rfl ?_
          refine k_end ?_; intro e214 qe214
          have s1_e214 : e214 1 = .pointer (some ⟨g1, 0, none⟩) := (congrFun qe214 1).trans s1_e
          have s46_e214 : e214 46 = .bool false := congrFun qe214 46
          clear qe214
          exact hQ0 _ _ false  s1_e214 s46_e214 (hp.drop (L' := [⟨g1, 0, ints .u8 a0⟩, ⟨g4, 0, ints .u8 r3⟩, ⟨g6, 0, ints .u8 r5.1⟩]) (List.Sublist.refl _)) (Option.some.inj h).symm
theorem postilionlaw04_FieldRoots.p2_ok {w0 : World} {Ws : List Wr} {Q : Exit → Env → World → Prop} (g1 g14 g4 g6 : Nat) (x15 : Int) (a0 : List Int) (r3 : List Int) (r5 : List Int × Int) (r13 : List Int × Int) (l_a0 : a0.length = 32) (l_r3 : r3.length = 32) (l_r5_1 : r5.1.length = 32) (l_r13_1 : r13.1.length = 32) {r : Bool} (hQ0 : ∀ (e' : Env) (w' : World) (z0 : Bool), e' 2 = .bool z0 → Hp w0 Ws w' [⟨g1, 0, ints .u8 a0⟩, ⟨g4, 0, ints .u8 r3⟩, ⟨g6, 0, ints .u8 r5.1⟩, ⟨g14, 0, ints .u8 r13.1⟩] [] → r = (z0) → Q .normal e' w') (e : Env) (w : World) (s6_e : e 6 = .pointer (some ⟨g14, 0, none⟩)) (s7_e : e 7 = .int .i64 x15) (hp : Hp w0 Ws w [⟨g1, 0, ints .u8 a0⟩, ⟨g4, 0, ints .u8 r3⟩, ⟨g6, 0, ints .u8 r5.1⟩, ⟨g14, 0, ints .u8 r13.1⟩] []) (h : postilionlaw04_FieldRoots.p2 x15 r13 = some r) : Wp Try.prog Try.f6.ntmps (at_ (fbody Try.f6) [1, 1, 1, 1, 1, 1, 0, 1, 0, 0]) Q e w := by
  unfold postilionlaw04_FieldRoots.p2 at h
  refine wregion (.tp 0 (.tp 1 (.tp 2 (.tk 3 (.tp 4 (.tp 5 (.tp 6 (.tp 7 (.done))))))))) [] rfl (by kernel_rfl) (by kernel_rfl) ?_
  refine k_move (v := .int .i64 x15) rfl s7_e ?_
  refine k_bin (X := .int .i64 x15) (Y := .int .i64 3) rfl rfl rfl rfl ?_
  rcases Bool.eq_false_or_eq_true (x15 == 3) with hb | hb
  · replace h := br_t hb h
    refine k_move (v := .bool true) rfl (Eq.trans (b := .bool (x15 == 3)) rfl (congrArg Value.bool hb)) ?_
    refine k_loadA (n := 32) (xs := ints .u8 r13.1) 0 rfl (by kernel_rfl) (by kernel_rfl) s6_e (hp.get (j := 3) rfl) rfl rfl ((ints_length _ _).trans l_r13_1) (fun m v hm => by rw [Nat.zero_add]; exact hm) ?_
    refine k_build (v := .agg (ints .u8 (List.replicate 32 (0 : Int))).toArray) rfl (fun _ => by kernel_rfl) ?_
    refine k_eqI (k := .u8) (l := r13.1) (l' := (List.replicate 32 (0 : Int))) rfl Try.underlying22 Try.underlying5 (by kernel_rfl) (by kernel_rfl) rfl rfl l_r13_1 List.length_replicate ?_
    refine k_pick (b := true) (v := .bool (r13.1 == (List.replicate 32 (0 : Int)))) rfl rfl rfl rfl rfl ?_
    refine k_assign (v := .bool (r13.1 == (List.replicate 32 (0 : Int)))) rfl rfl ?_
    refine k_end ?_; intro e219 qe219
    have s2_e219 : e219 2 = .bool (r13.1 == (List.replicate 32 (0 : Int))) := congrFun qe219 2
    clear qe219
    exact hQ0 _ _ (r13.1 == (List.replicate 32 (0 : Int)))  s2_e219 (hp.drop (L' := [⟨g1, 0, ints .u8 a0⟩, ⟨g4, 0, ints .u8 r3⟩, ⟨g6, 0, ints .u8 r5.1⟩, ⟨g14, 0, ints .u8 r13.1⟩]) (List.Sublist.refl _)) (Option.some.inj h).symm
  · replace h := br_f hb h
    refine k_move (v := .bool false) rfl (Eq.trans (b := .bool (x15 == 3)) rfl (congrArg Value.bool hb)) ?_
    refine k_skip_tk rfl ?_
    refine k_skip rfl ?_
    refine k_skip rfl ?_
    refine k_pick (b := false) (v := .bool false) rfl rfl rfl rfl rfl ?_
    refine k_assign (v := .bool false) rfl rfl ?_
    refine k_end ?_; intro e220 qe220
    have s2_e220 : e220 2 = .bool false := congrFun qe220 2
    clear qe220
    exact hQ0 _ _ false  s2_e220 (hp.drop (L' := [⟨g1, 0, ints .u8 a0⟩, ⟨g4, 0, ints .u8 r3⟩, ⟨g6, 0, ints .u8 r5.1⟩, ⟨g14, 0, ints .u8 r13.1⟩]) (List.Sublist.refl _)) (Option.some.inj h).symm
theorem postilionlaw04_FieldRoots.p3_ok {w0 : World} {Ws : List Wr} {Q : Exit → Env → World → Prop} (k : Nat) (g1 g14 g4 g6 : Nat) (a0 : List Int) (r3 : List Int) (r5 : List Int × Int) (r13 : List Int × Int) (l_a0 : a0.length = 32) (l_r3 : r3.length = 32) (l_r5_1 : r5.1.length = 32) (l_r13_1 : r13.1.length = 32) {r : Bool} (hQ0 : ∀ (e' : Env) (w' : World) (z0 : Bool), e' 2 = .bool z0 → Hp w0 Ws w' [⟨g1, 0, ints .u8 a0⟩, ⟨g4, 0, ints .u8 r3⟩, ⟨g6, 0, ints .u8 r5.1⟩, ⟨g14, 0, ints .u8 r13.1⟩] [] → r = (z0) → Q .normal e' w') (e : Env) (w : World) (s1_e : e 1 = .pointer (some ⟨g1, 0, none⟩)) (s6_e : e 6 = .pointer (some ⟨g14, 0, none⟩)) (hp : Hp w0 Ws w [⟨g1, 0, ints .u8 a0⟩, ⟨g4, 0, ints .u8 r3⟩, ⟨g6, 0, ints .u8 r5.1⟩, ⟨g14, 0, ints .u8 r13.1⟩] []) (h : postilionlaw04_FieldRoots.p3 k a0 r13 = some r) : Wp Try.prog Try.f6.ntmps (at_ (fbody Try.f6) [1, 1, 1, 1, 1, 1, 1, 0]) Q e w := by
  unfold postilionlaw04_FieldRoots.p3 at h
  refine wregion_m (.tk 0 (.tk 1 (.tk 3 (.tp 4 (.ef 2 (.ef 5 (.tp 6 (.tp 7 (.tp 8 (.tk 9 (.tp 10 (.tp 11 (.tp 12 (.tp 13 (.done))))))))))))))) [] [(0, 0, 0), (0, 0, 0), (3, 16383, 16383), (0, 0, 0), (0, 0, 16383), (28, 16383, 16383), (36, 36, 16383), (96, 64, 16383), (128, 128, 16383), (384, 384, 0), (640, 640, 16383), (1152, 1152, 16383), (2176, 2176, 16383), (8191, 4096, 16383)] rfl (by kernel_rfl) (by kernel_rfl) (Nat.le_of_ble_eq_true (by kernel_rfl)) (by kernel_rfl) (by kernel_rfl) ?_
  have hp := hp.drew
  refine k_loadA (n := 32) (xs := ints .u8 r13.1) 0 rfl (by kernel_rfl) (by kernel_rfl) s6_e (hp.get (j := 3) rfl) rfl rfl ((ints_length _ _).trans l_r13_1) (fun m v hm => by rw [Nat.zero_add]; exact hm) ?_
  refine k_loadA (n := 32) (xs := ints .u8 r13.1) 0 rfl (by kernel_rfl) (by kernel_rfl) s6_e (hp.get (j := 3) rfl) rfl rfl ((ints_length _ _).trans l_r13_1) (fun m v hm => by rw [Nat.zero_add]; exact hm) ?_
  refine k_loadA (n := 32) (xs := ints .u8 a0) 0 rfl (by kernel_rfl) (by kernel_rfl) s1_e (hp.get (j := 0) rfl) rfl rfl ((ints_length _ _).trans l_a0) (fun m v hm => by rw [Nat.zero_add]; exact hm) ?_
  refine k_build (v := .agg (ints .u8 (List.replicate 32 (0 : Int))).toArray) rfl (fun _ => by kernel_rfl) ?_
  obtain ⟨r18, qr18, h⟩ := bd_e h
  refine k_call [.agg (ints .u8 r13.1).toArray, .agg (ints .u8 r13.1).toArray] rfl (by kernel_rfl) (args2 rfl rfl) (field_Mul_ok k r13.1 r13.1 l_r13_1 l_r13_1 _ (hp.toR (fun _ h => by cases h)) qr18) ?_
  rintro _ w' ⟨_, rfl, rfl, lr180, hpc⟩
  refine ⟨_, rfl, .inr (.of_below hpc.chg.to_below), ?_⟩; have hp := hp.below hpc.chg.to_below; clear hpc
  obtain ⟨r19, qr19, h⟩ := bd_e h
  refine k_call [.agg (ints .u8 a0).toArray, .agg (ints .u8 (List.replicate 32 (0 : Int))).toArray] rfl (by kernel_rfl) (args2 rfl rfl) (field_Add_ok k a0 (List.replicate 32 (0 : Int)) l_a0 List.length_replicate _ (hp.toR (fun _ h => by cases h)) qr19) ?_
  rintro _ w' ⟨_, rfl, rfl, lr190, hpc⟩
  refine ⟨_, rfl, .inr (.of_below hpc.chg.to_below), ?_⟩; have hp := hp.below hpc.chg.to_below; clear hpc
  refine k_eqI (k := .u8) (l := r18) (l' := r19) rfl Try.underlying22 Try.underlying5 (by kernel_rfl) (by kernel_rfl) rfl rfl lr180 lr190 ?_
  rcases Bool.eq_false_or_eq_true (r18 == r19) with hb | hb
  · replace h := br_t hb h
    refine k_move (v := .bool true) rfl (Eq.trans (b := .bool (r18 == r19)) rfl (congrArg Value.bool hb)) ?_
    refine k_indexA (n := 32) (s := 1) (j := 0) rfl Try.underlying22 (by kernel_rfl) s6_e rfl (by decide) ?_
    refine k_load (j := 0) (v := .int .u8 (r13.1.getD 0 0)) rfl (by kernel_rfl) rfl (hp.get (j := 3) rfl) rfl rfl (ints_get (Nat.lt_of_lt_of_eq (m := 32) (by decide) (l_r13_1).symm)) ?_
    refine k_rem (a := (r13.1.getD 0 0)) (b := 2) rfl rfl rfl (by decide) ?_
    refine k_bin (X := .int .u8 (Int.tmod (r13.1.getD 0 0) 2)) (Y := .int .u8 0) rfl rfl rfl rfl ?_
    refine k_pick (b := true) (v := .bool ((Int.tmod (r13.1.getD 0 0) 2) == 0)) rfl rfl rfl rfl rfl ?_
    refine k_assign (v := .bool ((Int.tmod (r13.1.getD 0 0) 2) == 0)) rfl rfl ?_
    refine k_end ?_; intro e222 qe222
    have s2_e222 : e222 2 = .bool ((Int.tmod (r13.1.getD 0 0) 2) == 0) := congrFun qe222 2
    clear qe222
    exact hQ0 _ _ ((Int.tmod (r13.1.getD 0 0) 2) == 0)  s2_e222 (hp.drop (L' := [⟨g1, 0, ints .u8 a0⟩, ⟨g4, 0, ints .u8 r3⟩, ⟨g6, 0, ints .u8 r5.1⟩, ⟨g14, 0, ints .u8 r13.1⟩]) (List.Sublist.refl _)) (Option.some.inj h).symm
  · replace h := br_f hb h
    refine k_move (v := .bool false) rfl (Eq.trans (b := .bool (r18 == r19)) rfl (congrArg Value.bool hb)) ?_
    refine k_skip rfl ?_
    refine k_skip_tk rfl ?_
    refine k_skip rfl ?_
    refine k_skip rfl ?_
    refine k_pick (b := false) (v := .bool false) rfl rfl rfl rfl rfl ?_
    refine k_assign (v := .bool false) rfl rfl ?_
    refine k_end ?_; intro e223 qe223
    have s2_e223 : e223 2 = .bool false := congrFun qe223 2
    clear qe223
    exact hQ0 _ _ false  s2_e223 (hp.drop (L' := [⟨g1, 0, ints .u8 a0⟩, ⟨g4, 0, ints .u8 r3⟩, ⟨g6, 0, ints .u8 r5.1⟩, ⟨g14, 0, ints .u8 r13.1⟩]) (List.Sublist.refl _)) (Option.some.inj h).symm
theorem postilionlaw04_FieldRoots_ok (k : Nat) (a0 : List Int) (la0 : a0.length = 32) (w0 : World) (hp : Hp w0 [] w0 [] []) {r : Bool} (h : postilionlaw04_FieldRoots.f k a0 = some r) :
    Calls Try.prog 6 [.agg (ints .u8 a0).toArray].toArray w0 fun x w' => ∃ v, x = .returned v ∧ v = .bool r ∧ Hp w0 [] w' [] [] := by
  refine calls_in Try.func6 rfl (Nat.le_of_ble_eq_true (by kernel_rfl)) (by kernel_rfl) ?_
  intro e0 qe0
  have s0_e0 : e0 0 = .agg (ints .u8 a0).toArray := congrFun qe0 0
  clear qe0
  unfold postilionlaw04_FieldRoots.f at h
  refine wseq rfl ?_
  refine wregion (.ef 0 (.tp 1 (.done))) [] rfl (by kernel_rfl) (by kernel_rfl) ?_
  refine k_box (v := .agg (ints .u8 a0).toArray) (ints .u8 a0) rfl s0_e0 rfl hp ?_
  intro g1 w hbg1 hp
  refine k_assign (v := .bool false) rfl rfl ?_
  refine k_end ?_; intro e205 qe205
  have s1_e205 : e205 1 = .pointer (some ⟨g1, 0, none⟩) := congrFun qe205 1
  clear qe205
  refine wseq rfl ?_
  refine wseq rfl ?_
  refine wregion (.ef 0 (.tp 1 (.done))) [] rfl (by kernel_rfl) (by kernel_rfl) ?_
  obtain ⟨r2, qr2, h⟩ := bd_e h
  refine k_call [] rfl (by kernel_rfl) (args0 ) (postilionlaw04_awake_ok k   _ (hp.toR (fun _ h => by cases h)) qr2) ?_
  rintro _ w' ⟨_, rfl, rfl, hpc⟩
  refine ⟨_, rfl, .inr (.of_below hpc.chg.to_below), ?_⟩; have hp := hp.below hpc.chg.to_below; clear hpc
  refine k_not (b := r2) rfl rfl ?_
  refine k_end ?_; intro e206 qe206
  have s1_e206 : e206 1 = .pointer (some ⟨g1, 0, none⟩) := (congrFun qe206 1).trans s1_e205
  have s9_e206 : e206 9 = .bool (!r2) := congrFun qe206 9
  clear qe206
  refine wcond (t := (!r2)) rfl (by decide) s9_e206 (fun hb => ?_) (fun hb => ?_)
  · replace h := br_t hb h
    refine wseq rfl ?_
    refine wregion (.tp 0 (.done)) [] rfl (by kernel_rfl) (by kernel_rfl) ?_
    refine k_assign (v := .bool false) rfl rfl ?_
    refine k_end ?_; intro e207 qe207
    have s2_e207 : e207 2 = .bool false := congrFun qe207 2
    clear qe207
    refine wret rfl ?_
    have hr : r = false := (Option.some.inj h).symm
    show RetP _ _ _ _ _
    rw [hr]
    exact ret_i [.bool false] (res_tmp s2_e207 res_nil) ⟨rfl, hp.none⟩
  · replace h := br_f hb h
    refine wskip rfl ?_
    refine wseq rfl ?_
    refine wregion (.tk 0 (.tk 1 (.ef 2 (.ef 3 (.ef 4 (.done)))))) [4] rfl (by kernel_rfl) (by kernel_rfl) ?_
    refine k_loadA (n := 32) (xs := ints .u8 a0) 0 rfl (by kernel_rfl) (by kernel_rfl) s1_e206 (hp.get (j := 0) rfl) rfl rfl ((ints_length _ _).trans la0) (fun m v hm => by rw [Nat.zero_add]; exact hm) ?_
    refine k_loadA (n := 32) (xs := ints .u8 a0) 0 rfl (by kernel_rfl) (by kernel_rfl) s1_e206 (hp.get (j := 0) rfl) rfl rfl ((ints_length _ _).trans la0) (fun m v hm => by rw [Nat.zero_add]; exact hm) ?_
    obtain ⟨r3, qr3, h⟩ := bd_e h
    refine k_call [.agg (ints .u8 a0).toArray, .agg (ints .u8 a0).toArray] rfl (by kernel_rfl) (args2 rfl rfl) (field_Mul_ok k a0 a0 la0 la0 _ (hp.toR (fun _ h => by cases h)) qr3) ?_
    rintro _ w' ⟨_, rfl, rfl, lr30, hpc⟩
    refine ⟨_, rfl, .inr (.of_below hpc.chg.to_below), ?_⟩; have hp := hp.below hpc.chg.to_below; clear hpc
    refine k_alloc (ints .u8 (List.replicate 32 (0 : Int))) rfl (by kernel_rfl) hp ?_
    intro g4 w hbg4 hp
    refine k_storeA (v := .agg (ints .u8 r3).toArray) 1 0 (r := ⟨g4, 0, ints .u8 (List.replicate 32 (0 : Int))⟩) (ints .u8 r3) (ints .u8 r3) rfl (n := 32) (by kernel_rfl) rfl rfl rfl ((ints_length _ _).trans lr30) (ints_one _ _) hp rfl rfl rfl (Nat.le_of_eq ((Nat.zero_add _).trans ((ints_length _ _).trans List.length_replicate).symm)) (setMany_all _ _ (((ints_length _ _).trans lr30).trans ((ints_length _ _).trans List.length_replicate).symm)) (by decide) ?_; intro w hp
    refine k_end ?_; intro e208 qe208
    have s1_e208 : e208 1 = .pointer (some ⟨g1, 0, none⟩) := (congrFun qe208 1).trans s1_e206
    have s3_e208 : e208 3 = .pointer (some ⟨g4, 0, none⟩) := congrFun qe208 3
    clear qe208
    refine wseq rfl ?_
    refine wregion (.tk 0 (.ef 1 (.tp 2 (.tp 3 (.tp 4 (.ef 5 (.ef 6 (.tp 7 (.done))))))))) [6] rfl (by kernel_rfl) (by kernel_rfl) ?_
    refine k_loadA (n := 32) (xs := ints .u8 r3) 0 rfl (by kernel_rfl) (by kernel_rfl) s3_e208 (hp.get (j := 1) rfl) rfl rfl ((ints_length _ _).trans lr30) (fun m v hm => by rw [Nat.zero_add]; exact hm) ?_
    obtain ⟨r5, qr5, h⟩ := bd_e h
    refine k_call [.agg (ints .u8 r3).toArray] rfl (by kernel_rfl) (args1 rfl) (field_Sqrt_ok k r3 lr30 _ (hp.toR (fun _ h => by cases h)) qr5) ?_
    rintro _ w' ⟨_, rfl, rfl, lr50, hpc⟩
    refine ⟨_, rfl, .inr (.of_below hpc.chg.to_below), ?_⟩; have hp := hp.below hpc.chg.to_below; clear hpc
    refine k_move (v := .tuple #[.agg (ints .u8 r5.1).toArray, .int .i64 r5.2]) rfl rfl ?_
    refine k_extract (v := .agg (ints .u8 r5.1).toArray) rfl rfl rfl ?_
    refine k_extract (v := .int .i64 r5.2) rfl rfl rfl ?_
    refine k_alloc (ints .u8 (List.replicate 32 (0 : Int))) rfl (by kernel_rfl) hp ?_
    intro g6 w hbg6 hp
    refine k_storeA (v := .agg (ints .u8 r5.1).toArray) 2 0 (r := ⟨g6, 0, ints .u8 (List.replicate 32 (0 : Int))⟩) (ints .u8 r5.1) (ints .u8 r5.1) rfl (n := 32) (by kernel_rfl) rfl rfl rfl ((ints_length _ _).trans lr50) (ints_one _ _) hp rfl rfl rfl (Nat.le_of_eq ((Nat.zero_add _).trans ((ints_length _ _).trans List.length_replicate).symm)) (setMany_all _ _ (((ints_length _ _).trans lr50).trans ((ints_length _ _).trans List.length_replicate).symm)) (by decide) ?_; intro w hp
    refine k_assign (v := .int .i64 r5.2) rfl rfl ?_
    refine k_end ?_; intro e209 qe209
    have s1_e209 : e209 1 = .pointer (some ⟨g1, 0, none⟩) := (congrFun qe209 1).trans s1_e208
    have s3_e209 : e209 3 = .pointer (some ⟨g4, 0, none⟩) := (congrFun qe209 3).trans s3_e208
    have s4_e209 : e209 4 = .pointer (some ⟨g6, 0, none⟩) := congrFun qe209 4
    obtain ⟨x7, qx7, h⟩ := lt_e h
    have s5_e209 : e209 5 = .int .i64 x7 := (congrFun qe209 5).trans (congrArg (Value.int .i64) qx7.symm)
    clear qe209
    refine wseq rfl ?_
    refine wseq rfl ?_
    obtain ⟨r11, qr11, h⟩ := bd_e h
    refine postilionlaw04_FieldRoots.p1_ok k g1 g4 g6 x7 a0 r3 r5 la0 lr30 lr50 ?hq0 e209 _ s1_e209 s3_e209 s4_e209 s5_e209 hp qr11
    case hq0 =>
      intro e215 w m12  s1_e215 s46_e215 hp qq
      rw [qq] at h; clear qq
      refine wcond (t := m12) rfl (by decide) s46_e215 (fun hb => ?_) (fun hb => ?_)
      · replace h := br_t hb h
        refine wseq rfl ?_
        refine wregion (.tp 0 (.done)) [] rfl (by kernel_rfl) (by kernel_rfl) ?_
        refine k_assign (v := .bool false) rfl rfl ?_
        refine k_end ?_; intro e216 qe216
        have s2_e216 : e216 2 = .bool false := congrFun qe216 2
        clear qe216
        refine wret rfl ?_
        have hr : r = false := (Option.some.inj h).symm
        show RetP _ _ _ _ _
        rw [hr]
        exact ret_i [.bool false] (res_tmp s2_e216 res_nil) ⟨rfl, hp.none⟩
      · replace h := br_f hb h
        refine wskip rfl ?_
        refine wseq rfl ?_
        refine wregion (.tk 0 (.ef 1 (.tp 2 (.tp 3 (.tp 4 (.ef 5 (.ef 6 (.tp 7 (.done))))))))) [6] rfl (by kernel_rfl) (by kernel_rfl) ?_
        refine k_loadA (n := 32) (xs := ints .u8 a0) 0 rfl (by kernel_rfl) (by kernel_rfl) s1_e215 (hp.get (j := 0) rfl) rfl rfl ((ints_length _ _).trans la0) (fun m v hm => by rw [Nat.zero_add]; exact hm) ?_
        obtain ⟨r13, qr13, h⟩ := bd_e h
        refine k_call [.agg (ints .u8 a0).toArray] rfl (by kernel_rfl) (args1 rfl) (field_Sqrt_ok k a0 la0 _ (hp.toR (fun _ h => by cases h)) qr13) ?_
        rintro _ w' ⟨_, rfl, rfl, lr130, hpc⟩
        refine ⟨_, rfl, .inr (.of_below hpc.chg.to_below), ?_⟩; have hp := hp.below hpc.chg.to_below; clear hpc
        refine k_move (v := .tuple #[.agg (ints .u8 r13.1).toArray, .int .i64 r13.2]) rfl rfl ?_
        refine k_extract (v := .agg (ints .u8 r13.1).toArray) rfl rfl rfl ?_
        refine k_extract (v := .int .i64 r13.2) rfl rfl rfl ?_
        refine k_alloc (ints .u8 (List.replicate 32 (0 : Int))) rfl (by kernel_rfl) hp ?_
        intro g14 w hbg14 hp
        refine k_storeA (v := .agg (ints .u8 r13.1).toArray) 3 0 (r := ⟨g14, 0, ints .u8 (List.replicate 32 (0 : Int))⟩) (ints .u8 r13.1) (ints .u8 r13.1) rfl (n := 32) (by kernel_rfl) rfl rfl rfl ((ints_length _ _).trans lr130) (ints_one _ _) hp rfl rfl rfl (Nat.le_of_eq ((Nat.zero_add _).trans ((ints_length _ _).trans List.length_replicate).symm)) (setMany_all _ _ (((ints_length _ _).trans lr130).trans ((ints_length _ _).trans List.length_replicate).symm)) (by decide) ?_; intro w hp
        refine k_assign (v := .int .i64 r13.2) rfl rfl ?_
        refine k_end ?_; intro e217 qe217
        have s1_e217 : e217 1 = .pointer (some ⟨g1, 0, none⟩) := (congrFun qe217 1).trans s1_e215
        have s6_e217 : e217 6 = .pointer (some ⟨g14, 0, none⟩) := congrFun qe217 6
        obtain ⟨x15, qx15, h⟩ := lt_e h
        have s7_e217 : e217 7 = .int .i64 x15 := (congrFun qe217 7).trans (congrArg (Value.int .i64) qx15.symm)
        clear qe217
        refine wseq rfl ?_
        refine wseq rfl ?_
        refine wregion (.tp 0 (.tp 1 (.done))) [] rfl (by kernel_rfl) (by kernel_rfl) ?_
        refine k_move (v := .int .i64 x15) rfl s7_e217 ?_
        refine k_bin (X := .int .i64 x15) (Y := .int .i64 0) rfl rfl rfl rfl ?_
        refine k_end ?_; intro e218 qe218
        have s1_e218 : e218 1 = .pointer (some ⟨g1, 0, none⟩) := (congrFun qe218 1).trans s1_e217
        have s6_e218 : e218 6 = .pointer (some ⟨g14, 0, none⟩) := (congrFun qe218 6).trans s6_e217
        have s7_e218 : e218 7 = .int .i64 x15 := (congrFun qe218 7).trans s7_e217
        have s53_e218 : e218 53 = .bool (x15 != 0) := congrFun qe218 53
        clear qe218
        refine wcond (t := (x15 != 0)) rfl (by decide) s53_e218 (fun hb => ?_) (fun hb => ?_)
        · replace h := br_t hb h
          refine wseq rfl ?_
          obtain ⟨r16, qr16, h⟩ := bd_e h
          refine postilionlaw04_FieldRoots.p2_ok g1 g14 g4 g6 x15 a0 r3 r5 r13 la0 lr30 lr50 lr130 ?hq0 e218 _ s6_e218 s7_e218 hp qr16
          case hq0 =>
            intro e221 w m17  s2_e221 hp qq
            rw [qq] at h; clear qq
            refine wret rfl ?_
            have hr : r = m17 := (Option.some.inj h).symm
            show RetP _ _ _ _ _
            rw [hr]
            exact ret_i [.bool m17] (res_tmp s2_e221 res_nil) ⟨rfl, hp.none⟩
        · replace h := br_f hb h
          refine wskip rfl ?_
          refine wseq rfl ?_
          obtain ⟨r20, qr20, h⟩ := bd_e h
          refine postilionlaw04_FieldRoots.p3_ok k g1 g14 g4 g6 a0 r3 r5 r13 la0 lr30 lr50 lr130 ?hq0 e218 _ s1_e218 s6_e218 hp qr20
          case hq0 =>
            intro e224 w m21  s2_e224 hp qq
            rw [qq] at h; clear qq
            refine wret rfl ?_
            have hr : r = m21 := (Option.some.inj h).symm
            show RetP _ _ _ _ _
            rw [hr]
            exact ret_i [.bool m21] (res_tmp s2_e224 res_nil) ⟨rfl, hp.none⟩
/-! 30 postilion/postilionref04.From -/
theorem postilionref04_From.p1_ok {w0 : World} {Ws : List Wr} {Q : Exit → Env → World → Prop} (g1 g2 g3 : Nat) (a0 : List Int) (l_a0 : a0.length = 32) {r : List Int} (hQ0 : ∀ (e' : Env) (w' : World) (z0 : List Int), z0.length = 4 → e' 2 = .pointer (some ⟨g2, 0, none⟩) → e' 3 = .pointer (some ⟨g3, 0, none⟩) → Hp w0 Ws w' [⟨g1, 0, ints .u8 a0⟩, ⟨g2, 0, ints .u64 (List.replicate 4 (0 : Int))⟩, ⟨g3, 0, ints .u64 z0⟩] [] → r = (z0) → Q (.exit 0) e' w') : ∀ (k : Nat), ∀ (y4 : List Int) (y5 : Int) (e : Env) (w : World) (ly4 : y4.length = 4) (s1_e : e 1 = .pointer (some ⟨g1, 0, none⟩)) (s2_e : e 2 = .pointer (some ⟨g2, 0, none⟩)) (s3_e : e 3 = .pointer (some ⟨g3, 0, none⟩)) (s5_e : e 5 = .int .i64 y5) (hp : Hp w0 Ws w [⟨g1, 0, ints .u8 a0⟩, ⟨g2, 0, ints .u64 (List.replicate 4 (0 : Int))⟩, ⟨g3, 0, ints .u64 y4⟩] []) (h : postilionref04_From.p1 k a0 y4 y5 = some r), Lp Try.prog Try.f30.ntmps (at_ (fbody Try.f30) [1, 1, 0, 1, 0, 0]) Q k e w := by
  intro k
  induction k with
  | zero => intro y4 y5 e w ly4 s1_e s2_e s3_e s5_e hp h; cases h
  | succ k ih =>
    intro y4 y5 e w ly4 s1_e s2_e s3_e s5_e hp h
    unfold postilionref04_From.p1 at h
    show Wp _ _ _ _ _ _
    refine wseq rfl ?_
    refine wregion (.tp 0 (.done)) [] rfl (by kernel_rfl) (by kernel_rfl) ?_
    refine k_bin (X := .int .i64 y5) (Y := .int .i64 32) rfl s5_e rfl rfl ?_
    refine k_end ?_; intro e228 qe228
    have s1_e228 : e228 1 = .pointer (some ⟨g1, 0, none⟩) := (congrFun qe228 1).trans s1_e
    have s2_e228 : e228 2 = .pointer (some ⟨g2, 0, none⟩) := (congrFun qe228 2).trans s2_e
    have s3_e228 : e228 3 = .pointer (some ⟨g3, 0, none⟩) := (congrFun qe228 3).trans s3_e
    have s5_e228 : e228 5 = .int .i64 y5 := (congrFun qe228 5).trans s5_e
    have s6_e228 : e228 6 = .bool (decide (y5 < 32)) := congrFun qe228 6
    clear qe228
    refine wseq rfl ?_
    refine wcond (t := (decide (y5 < 32))) rfl (by decide) s6_e228 (fun hb => ?_) (fun hb => ?_)
    · replace h := br_t hb h
      refine wskip rfl ?_
      refine wseq rfl ?_
      refine wblock rfl ?_
      refine wseq rfl ?_
      refine wregion (.tp 0 (.tp 1 (.done))) [] rfl (by kernel_rfl) (by kernel_rfl) ?_
      refine k_move (v := .int .i64 y5) rfl s5_e228 ?_
      refine k_assign (v := .int .i64 y5) rfl rfl ?_
      refine k_end ?_; intro e229 qe229
      have s1_e229 : e229 1 = .pointer (some ⟨g1, 0, none⟩) := (congrFun qe229 1).trans s1_e228
      have s2_e229 : e229 2 = .pointer (some ⟨g2, 0, none⟩) := (congrFun qe229 2).trans s2_e228
      have s3_e229 : e229 3 = .pointer (some ⟨g3, 0, none⟩) := (congrFun qe229 3).trans s3_e228
      have s4_e229 : e229 4 = .int .i64 y5 := congrFun qe229 4
      have s5_e229 : e229 5 = .int .i64 y5 := (congrFun qe229 5).trans s5_e228
      clear qe229
      refine wregion_m (.tp 0 (.tp 1 (.tp 2 (.tp 3 (.tp 4 (.tk 5 (.tp 6 (.tp 7 (.tk 8 (.tp 9 (.tp 10 (.tp 11 (.tp 12 (.tp 13 (.tp 14 (.tp 15 (.tp 16 (.ef 17 (.done))))))))))))))))))) [17] [(0, 0, 262143), (1, 1, 262143), (0, 0, 262143), (4, 4, 262143), (8, 8, 262143), (16, 16, 0), (0, 0, 262143), (64, 64, 262143), (128, 128, 0), (256, 256, 262143), (0, 0, 262143), (1024, 1024, 262143), (2048, 2048, 262143), (4096, 4096, 262143), (8704, 8704, 262143), (16416, 16416, 262143), (65535, 2, 262143), (131071, 262143, 262143)] rfl (by kernel_rfl) (by kernel_rfl) (Nat.le_of_ble_eq_true (by kernel_rfl)) (by kernel_rfl) (by kernel_rfl) ?_
      have hp := hp.drew
      refine k_move (v := .int .i64 y5) rfl s4_e229 ?_
      refine k_quo (a := y5) (b := 8) rfl rfl rfl (by decide) ?_
      refine k_move (v := .int .i64 y5) rfl s4_e229 ?_
      refine k_quo (a := y5) (b := 8) rfl rfl rfl (by decide) ?_
      obtain ⟨c6, h⟩ := chk_e h
      refine k_indexA (n := 4) (s := 1) (j := (IntKind.i64.wrap (Int.tdiv y5 8))) rfl Try.underlying42 (by kernel_rfl) s3_e229 rfl c6 ?_
      refine k_load (j := ((IntKind.i64.wrap (Int.tdiv y5 8)) : Int).toNat) (v := .int .u64 (y4.getD ((IntKind.i64.wrap (Int.tdiv y5 8)) : Int).toNat 0)) rfl (by kernel_rfl) rfl (hp.get (j := 2) rfl) rfl (show 0 + ((IntKind.i64.wrap (Int.tdiv y5 8)) : Int).toNat * 1 = 0 + ((IntKind.i64.wrap (Int.tdiv y5 8)) : Int).toNat by omega) (ints_get (idx_lt c6 ly4)) ?_
      refine k_move (v := .int .i64 y5) rfl s4_e229 ?_
      obtain ⟨c7, h⟩ := chk_e h
      refine k_indexA (n := 32) (s := 1) (j := y5) rfl Try.underlying22 (by kernel_rfl) s1_e229 rfl c7 ?_
      refine k_load (j := (y5 : Int).toNat) (v := .int .u8 (a0.getD (y5 : Int).toNat 0)) rfl (by kernel_rfl) rfl (hp.get (j := 0) rfl) rfl (show 0 + (y5 : Int).toNat * 1 = 0 + (y5 : Int).toNat by omega) (ints_get (idx_lt c7 l_a0)) ?_
      refine k_conv (k := .u64) (k' := .u8) (n := (a0.getD (y5 : Int).toNat 0)) rfl Try.underlying5 Try.underlying32 rfl ?_
      refine k_move (v := .int .i64 y5) rfl s4_e229 ?_
      refine k_rem (a := y5) (b := 8) rfl rfl rfl (by decide) ?_
      refine k_bin (X := .int .i64 8) (Y := .int .i64 (Int.tmod y5 8)) rfl rfl rfl rfl ?_
      refine k_conv (k := .u64) (k' := .i64) (n := (IntKind.i64.wrap (8 * (Int.tmod y5 8)))) rfl Try.underlying3 Try.underlying52 rfl ?_
      obtain ⟨c8, h⟩ := chk_e h
      refine k_shl (a := (IntKind.u64.wrap (a0.getD (y5 : Int).toNat 0))) (b := (IntKind.u64.wrap (IntKind.i64.wrap (8 * (Int.tmod y5 8))))) rfl rfl rfl c8 ?_
      refine k_bin (X := .int .u64 (y4.getD ((IntKind.i64.wrap (Int.tdiv y5 8)) : Int).toNat 0)) (Y := .int .u64 (IntKind.u64.wrap ((IntKind.u64.wrap (a0.getD (y5 : Int).toNat 0)) * 2 ^ (min ((IntKind.u64.wrap (IntKind.i64.wrap (8 * (Int.tmod y5 8)))) : Int).toNat (IntKind.u64).bits)))) rfl rfl rfl rfl ?_
      refine k_indexA (n := 4) (s := 1) (j := (IntKind.i64.wrap (Int.tdiv y5 8))) rfl Try.underlying42 (by kernel_rfl) s3_e229 rfl c6 ?_
      refine k_store (v := .int .u64 (bits .or .u64 (y4.getD ((IntKind.i64.wrap (Int.tdiv y5 8)) : Int).toNat 0) (IntKind.u64.wrap ((IntKind.u64.wrap (a0.getD (y5 : Int).toNat 0)) * 2 ^ (min ((IntKind.u64.wrap (IntKind.i64.wrap (8 * (Int.tmod y5 8)))) : Int).toNat (IntKind.u64).bits))))) 2 ((IntKind.i64.wrap (Int.tdiv y5 8)) : Int).toNat (r := ⟨g3, 0, ints .u64 y4⟩) rfl (by kernel_rfl) rfl rfl rfl hp rfl rfl (show 0 + ((IntKind.i64.wrap (Int.tdiv y5 8)) : Int).toNat * 1 = 0 + ((IntKind.i64.wrap (Int.tdiv y5 8)) : Int).toNat by omega) (Nat.lt_of_lt_of_eq (idx_lt c6 ly4) (ints_length _ _).symm) (by decide) ?_; intro w hp; rw [ints_set] at hp
      refine k_end ?_; intro e230 qe230
      have s1_e230 : e230 1 = .pointer (some ⟨g1, 0, none⟩) := (congrFun qe230 1).trans s1_e229
      have s2_e230 : e230 2 = .pointer (some ⟨g2, 0, none⟩) := (congrFun qe230 2).trans s2_e229
      have s3_e230 : e230 3 = .pointer (some ⟨g3, 0, none⟩) := (congrFun qe230 3).trans s3_e229
      have s5_e230 : e230 5 = .int .i64 y5 := (congrFun qe230 5).trans s5_e229
      clear qe230
      refine wregion (.tp 0 (.tp 1 (.done))) [] rfl (by kernel_rfl) (by kernel_rfl) ?_
      refine k_bin (X := .int .i64 y5) (Y := .int .i64 1) rfl s5_e230 rfl rfl ?_
      refine k_move (v := .int .i64 (IntKind.i64.wrap (y5 + 1))) rfl rfl ?_
      refine k_end ?_; intro e231 qe231
      have s1_e231 : e231 1 = .pointer (some ⟨g1, 0, none⟩) := (congrFun qe231 1).trans s1_e230
      have s2_e231 : e231 2 = .pointer (some ⟨g2, 0, none⟩) := (congrFun qe231 2).trans s2_e230
      have s3_e231 : e231 3 = .pointer (some ⟨g3, 0, none⟩) := (congrFun qe231 3).trans s3_e230
      obtain ⟨x9, qx9, h⟩ := lt_e h
      have s5_e231 : e231 5 = .int .i64 x9 := (congrFun qe231 5).trans (congrArg (Value.int .i64) qx9.symm)
      clear qe231
      exact ih (y4.set ((IntKind.i64.wrap (Int.tdiv y5 8)) : Int).toNat (bits .or .u64 (y4.getD ((IntKind.i64.wrap (Int.tdiv y5 8)) : Int).toNat 0) (IntKind.u64.wrap ((IntKind.u64.wrap (a0.getD (y5 : Int).toNat 0)) * 2 ^ (min ((IntKind.u64.wrap (IntKind.i64.wrap (8 * (Int.tmod y5 8)))) : Int).toNat (IntKind.u64).bits))))) x9 _ _ (List.length_set.trans ly4) s1_e231 s2_e231 s3_e231 s5_e231 (hp.drop (L' := [⟨g1, 0, ints .u8 a0⟩, ⟨g2, 0, ints .u64 (List.replicate 4 (0 : Int))⟩, ⟨g3, 0, ints .u64 (y4.set ((IntKind.i64.wrap (Int.tdiv y5 8)) : Int).toNat (bits .or .u64 (y4.getD ((IntKind.i64.wrap (Int.tdiv y5 8)) : Int).toNat 0) (IntKind.u64.wrap ((IntKind.u64.wrap (a0.getD (y5 : Int).toNat 0)) * 2 ^ (min ((IntKind.u64.wrap (IntKind.i64.wrap (8 * (Int.tmod y5 8)))) : Int).toNat (IntKind.u64).bits)))))⟩]) (List.Sublist.refl _)) h
    · replace h := br_f hb h
      refine wexit rfl ?_
      exact hQ0 _ _ y4 ly4 s2_e228 s3_e228 (hp.drop (L' := [⟨g1, 0, ints .u8 a0⟩, ⟨g2, 0, ints .u64 (List.replicate 4 (0 : Int))⟩, ⟨g3, 0, ints .u64 y4⟩]) (List.Sublist.refl _)) (Option.some.inj h).symm
theorem postilionref04_From_ok (k : Nat) (a0 : List Int) (la0 : a0.length = 32) (w0 : World) (hp : Hp w0 [] w0 [] []) {r : List Int} (h : postilionref04_From.f k a0 = some r) :
    Calls Try.prog 30 [.agg (ints .u8 a0).toArray].toArray w0 fun x w' => ∃ v, x = .returned v ∧ v = .agg (ints .u64 r).toArray ∧ r.length = 4 ∧ Hp w0 [] w' [] [] := by
  refine calls_in Try.func30 rfl (Nat.le_of_ble_eq_true (by kernel_rfl)) (by kernel_rfl) ?_
  intro e0 qe0
  have s0_e0 : e0 0 = .agg (ints .u8 a0).toArray := congrFun qe0 0
  clear qe0
  unfold postilionref04_From.f at h
  refine wseq rfl ?_
  refine wregion (.ef 0 (.ef 1 (.done))) [] rfl (by kernel_rfl) (by kernel_rfl) ?_
  refine k_box (v := .agg (ints .u8 a0).toArray) (ints .u8 a0) rfl s0_e0 rfl hp ?_
  intro g1 w hbg1 hp
  refine k_alloc (ints .u64 (List.replicate 4 (0 : Int))) rfl (by kernel_rfl) hp ?_
  intro g2 w hbg2 hp
  refine k_end ?_; intro e225 qe225
  have s1_e225 : e225 1 = .pointer (some ⟨g1, 0, none⟩) := congrFun qe225 1
  have s2_e225 : e225 2 = .pointer (some ⟨g2, 0, none⟩) := congrFun qe225 2
  clear qe225
  refine wseq rfl ?_
  refine wregion (.ef 0 (.done)) [] rfl (by kernel_rfl) (by kernel_rfl) ?_
  refine k_alloc (ints .u64 (List.replicate 4 (0 : Int))) rfl (by kernel_rfl) hp ?_
  intro g3 w hbg3 hp
  refine k_end ?_; intro e226 qe226
  have s1_e226 : e226 1 = .pointer (some ⟨g1, 0, none⟩) := (congrFun qe226 1).trans s1_e225
  have s2_e226 : e226 2 = .pointer (some ⟨g2, 0, none⟩) := (congrFun qe226 2).trans s2_e225
  have s3_e226 : e226 3 = .pointer (some ⟨g3, 0, none⟩) := congrFun qe226 3
  clear qe226
  refine wseq rfl ?_
  refine wseq rfl ?_
  refine wregion (.tp 0 (.done)) [] rfl (by kernel_rfl) (by kernel_rfl) ?_
  refine k_move (v := .int .i64 0) rfl rfl ?_
  refine k_end ?_; intro e227 qe227
  have s1_e227 : e227 1 = .pointer (some ⟨g1, 0, none⟩) := (congrFun qe227 1).trans s1_e226
  have s2_e227 : e227 2 = .pointer (some ⟨g2, 0, none⟩) := (congrFun qe227 2).trans s2_e226
  have s3_e227 : e227 3 = .pointer (some ⟨g3, 0, none⟩) := (congrFun qe227 3).trans s3_e226
  have s5_e227 : e227 5 = .int .i64 0 := congrFun qe227 5
  clear qe227
  refine wblock rfl ?_
  obtain ⟨r10, qr10, h⟩ := bd_e h
  refine wloop k rfl (postilionref04_From.p1_ok g1 g2 g3 a0 la0 ?hq0 k (List.replicate 4 (0 : Int)) 0 e227 _ List.length_replicate s1_e227 s2_e227 s3_e227 s5_e227 hp qr10)
  case hq0 =>
    intro e232 w m11 lm11 s2_e232 s3_e232 hp qq
    rw [qq] at h; clear qq
    refine wseq rfl ?_
    refine wregion (.tk 0 (.ef 1 (.done))) [1] rfl (by kernel_rfl) (by kernel_rfl) ?_
    refine k_loadA (n := 4) (xs := ints .u64 m11) 0 rfl (by kernel_rfl) (by kernel_rfl) s3_e232 (hp.get (j := 2) rfl) rfl rfl ((ints_length _ _).trans lm11) (fun m v hm => by rw [Nat.zero_add]; exact hm) ?_
    refine k_storeA (v := .agg (ints .u64 m11).toArray) 1 0 (r := ⟨g2, 0, ints .u64 (List.replicate 4 (0 : Int))⟩) (ints .u64 m11) (ints .u64 m11) rfl (n := 4) (by kernel_rfl) s2_e232 rfl rfl ((ints_length _ _).trans lm11) (ints_one _ _) hp rfl rfl rfl (Nat.le_of_eq ((Nat.zero_add _).trans ((ints_length _ _).trans List.length_replicate).symm)) (setMany_all _ _ (((ints_length _ _).trans lm11).trans ((ints_length _ _).trans List.length_replicate).symm)) (by decide) ?_; intro w hp
    refine k_end ?_; intro e233 qe233
    have s2_e233 : e233 2 = .pointer (some ⟨g2, 0, none⟩) := (congrFun qe233 2).trans s2_e232
    clear qe233
    refine wret rfl ?_
    have hr : r = m11 := (Option.some.inj h).symm
    show RetP _ _ _ _ _
    rw [hr]
    exact ret_i [.agg (ints .u64 m11).toArray] (res_cell s2_e233 (loadVar_agg (by kernel_rfl) (by kernel_rfl) ((ints_length _ _).trans lm11) (hp.get (j := 1) rfl) rfl rfl rfl) res_nil) ⟨rfl, lm11, hp.none⟩
/-! 32 postilion/postilionref04.Small -/
theorem postilionref04_Small_ok (a0 : Int) (w0 : World) (hp : Hp w0 [] w0 [] []) {r : List Int} (h : postilionref04_Small.f a0 = some r) :
    Calls Try.prog 32 [.int .u64 a0].toArray w0 fun x w' => ∃ v, x = .returned v ∧ v = .agg (ints .u64 r).toArray ∧ r.length = 4 ∧ Hp w0 [] w' [] [] := by
  refine calls_in Try.func32 rfl (Nat.le_of_ble_eq_true (by kernel_rfl)) (by kernel_rfl) ?_
  intro e0 qe0
  have s0_e0 : e0 0 = .int .u64 a0 := congrFun qe0 0
  clear qe0
  unfold postilionref04_Small.f at h
  refine wseq rfl ?_
  refine wregion (.ef 0 (.done)) [] rfl (by kernel_rfl) (by kernel_rfl) ?_
  refine k_alloc (ints .u64 (List.replicate 4 (0 : Int))) rfl (by kernel_rfl) hp ?_
  intro g1 w hbg1 hp
  refine k_end ?_; intro e234 qe234
  have s0_e234 : e234 0 = .int .u64 a0 := (congrFun qe234 0).trans s0_e0
  have s2_e234 : e234 2 = .pointer (some ⟨g1, 0, none⟩) := congrFun qe234 2
  clear qe234
  refine wseq rfl ?_
  refine wregion (.tp 0 (.tp 1 (.ef 2 (.done)))) [2] rfl (by kernel_rfl) (by kernel_rfl) ?_
  refine k_move (v := .int .u64 a0) rfl s0_e234 ?_
  refine k_build (v := .agg (ints .u64 [a0, 0, 0, 0]).toArray) rfl (fun _ => by kernel_rfl) ?_
  refine k_storeA (v := .agg (ints .u64 [a0, 0, 0, 0]).toArray) 0 0 (r := ⟨g1, 0, ints .u64 (List.replicate 4 (0 : Int))⟩) (ints .u64 [a0, 0, 0, 0]) (ints .u64 [a0, 0, 0, 0]) rfl (n := 4) (by kernel_rfl) s2_e234 rfl rfl ((ints_length _ _).trans (rfl : List.length ([a0, 0, 0, 0] : List Int) = 4)) (ints_one _ _) hp rfl rfl rfl (Nat.le_of_eq ((Nat.zero_add _).trans ((ints_length _ _).trans List.length_replicate).symm)) (setMany_all _ _ (((ints_length _ _).trans (rfl : List.length ([a0, 0, 0, 0] : List Int) = 4)).trans ((ints_length _ _).trans List.length_replicate).symm)) (by decide) ?_; intro w hp
  refine k_end ?_; intro e235 qe235
  have s2_e235 : e235 2 = .pointer (some ⟨g1, 0, none⟩) := (congrFun qe235 2).trans s2_e234
  clear qe235
  refine wret rfl ?_
  have hr : r = [a0, 0, 0, 0] := (Option.some.inj h).symm
  show RetP _ _ _ _ _
  rw [hr]
  exact ret_i [.agg (ints .u64 [a0, 0, 0, 0]).toArray] (res_cell s2_e235 (loadVar_agg (by kernel_rfl) (by kernel_rfl) ((ints_length _ _).trans (rfl : List.length ([a0, 0, 0, 0] : List Int) = 4)) (hp.get (j := 0) rfl) rfl rfl rfl) res_nil) ⟨rfl, (rfl : List.length ([a0, 0, 0, 0] : List Int) = 4), hp.none⟩
/-! 55 postilion/postilionref04.fold -/
theorem postilionref04_fold.p1_ok {w0 : World} {Ws : List Wr} {Q : Exit → Env → World → Prop} (g1 g2 : Nat)   {r : List Int} (hQ0 : ∀ (e' : Env) (w' : World) (z0 : List Int), z0.length = 4 → e' 2 = .pointer (some ⟨g1, 0, none⟩) → e' 4 = .pointer (some ⟨g2, 0, none⟩) → Hp w0 Ws w' [⟨g1, 0, ints .u64 z0⟩, ⟨g2, 0, ints .u64 (List.replicate 4 (0 : Int))⟩] [] → r = (z0) → Q (.exit 0) e' w') : ∀ (k : Nat), ∀ (y3 : List Int) (y4 : Int) (e : Env) (w : World) (ly3 : y3.length = 4) (s1_e : e 1 = .int .u64 y4) (s2_e : e 2 = .pointer (some ⟨g1, 0, none⟩)) (s4_e : e 4 = .pointer (some ⟨g2, 0, none⟩)) (hp : Hp w0 Ws w [⟨g1, 0, ints .u64 y3⟩, ⟨g2, 0, ints .u64 (List.replicate 4 (0 : Int))⟩] []) (h : postilionref04_fold.p1 k y3 y4 = some r), Lp Try.prog Try.f55.ntmps (at_ (fbody Try.f55) [1, 0, 0, 0]) Q k e w := by
  intro k
  induction k with
  | zero => intro y3 y4 e w ly3 s1_e s2_e s4_e hp h; cases h
  | succ k ih =>
    intro y3 y4 e w ly3 s1_e s2_e s4_e hp h
    unfold postilionref04_fold.p1 at h
    show Wp _ _ _ _ _ _
    refine wseq rfl ?_
    refine wseq rfl ?_
    refine wregion (.tp 0 (.tp 1 (.done))) [] rfl (by kernel_rfl) (by kernel_rfl) ?_
    refine k_move (v := .int .u64 y4) rfl s1_e ?_
    refine k_bin (X := .int .u64 y4) (Y := .int .u64 0) rfl rfl rfl rfl ?_
    refine k_end ?_; intro e237 qe237
    have s1_e237 : e237 1 = .int .u64 y4 := (congrFun qe237 1).trans s1_e
    have s2_e237 : e237 2 = .pointer (some ⟨g1, 0, none⟩) := (congrFun qe237 2).trans s2_e
    have s4_e237 : e237 4 = .pointer (some ⟨g2, 0, none⟩) := (congrFun qe237 4).trans s4_e
    have s9_e237 : e237 9 = .bool (y4 != 0) := congrFun qe237 9
    clear qe237
    refine wcond (t := (y4 != 0)) rfl (by decide) s9_e237 (fun hb => ?_) (fun hb => ?_)
    · replace h := br_t hb h
      refine wskip rfl ?_
      refine wblock rfl ?_
      refine wseq rfl ?_
      refine wregion (.tp 0 (.ef 1 (.tp 2 (.tp 3 (.tp 4 (.tp 5 (.tp 6 (.done)))))))) [] rfl (by kernel_rfl) (by kernel_rfl) ?_
      refine k_move (v := .int .u64 y4) rfl s1_e237 ?_
      obtain ⟨r5, qr5, h⟩ := bd_e h
      refine k_call [.int .u64 y4, .int .u64 38] rfl (by kernel_rfl) (args2 rfl rfl) (math_bits_Mul64_ok y4 38  _ (hp.toR (fun _ h => by cases h)) qr5) ?_
      rintro _ w' ⟨_, rfl, rfl, hpc⟩
      refine ⟨_, rfl, .inr (.of_below hpc.chg.to_below), ?_⟩; have hp := hp.below hpc.chg.to_below; clear hpc
      refine k_move (v := .tuple #[.int .u64 r5.1, .int .u64 r5.2]) rfl rfl ?_
      refine k_extract (v := .int .u64 r5.1) rfl rfl rfl ?_
      refine k_extract (v := .int .u64 r5.2) rfl rfl rfl ?_
      refine k_assign (v := .int .u64 r5.1) rfl rfl ?_
      refine k_assign (v := .int .u64 r5.2) rfl rfl ?_
      refine k_end ?_; intro e238 qe238
      have s2_e238 : e238 2 = .pointer (some ⟨g1, 0, none⟩) := (congrFun qe238 2).trans s2_e237
      have s4_e238 : e238 4 = .pointer (some ⟨g2, 0, none⟩) := (congrFun qe238 4).trans s4_e237
      obtain ⟨x6, qx6, h⟩ := lt_e h
      have s5_e238 : e238 5 = .int .u64 x6 := (congrFun qe238 5).trans (congrArg (Value.int .u64) qx6.symm)
      obtain ⟨x7, qx7, h⟩ := lt_e h
      have s6_e238 : e238 6 = .int .u64 x7 := (congrFun qe238 6).trans (congrArg (Value.int .u64) qx7.symm)
      clear qe238
      refine wseq rfl ?_
      refine wregion (.tp 0 (.done)) [] rfl (by kernel_rfl) (by kernel_rfl) ?_
      refine k_assign (v := .int .u64 0) rfl rfl ?_
      refine k_end ?_; intro e239 qe239
      have s2_e239 : e239 2 = .pointer (some ⟨g1, 0, none⟩) := (congrFun qe239 2).trans s2_e238
      have s4_e239 : e239 4 = .pointer (some ⟨g2, 0, none⟩) := (congrFun qe239 4).trans s4_e238
      have s5_e239 : e239 5 = .int .u64 x6 := (congrFun qe239 5).trans s5_e238
      have s6_e239 : e239 6 = .int .u64 x7 := (congrFun qe239 6).trans s6_e238
      clear qe239
      refine wseq rfl ?_
      refine wregion (.tp 0 (.tk 1 (.tp 2 (.tp 3 (.tp 4 (.tp 5 (.tp 6 (.tp 7 (.ef 8 (.tp 9 (.done))))))))))) [8] rfl (by kernel_rfl) (by kernel_rfl) ?_
      refine k_indexA (n := 4) (s := 1) (j := 0) rfl Try.underlying42 (by kernel_rfl) s2_e239 rfl (by decide) ?_
      refine k_load (j := 0) (v := .int .u64 (y3.getD 0 0)) rfl (by kernel_rfl) rfl (hp.get (j := 0) rfl) rfl rfl (ints_get (Nat.lt_of_lt_of_eq (m := 4) (by decide) (ly3).symm)) ?_
      refine k_move (v := .int .u64 x7) rfl s6_e239 ?_
      obtain ⟨c8, h⟩ := chk_e h
      refine k_ext [.int .u64 (y3.getD 0 0), .int .u64 x7, .int .u64 0] rfl ext54 (args3 rfl rfl rfl) (fun w' => run_add64 (y3.getD 0 0) x7 0 c8.1 c8.2.1 c8.2.2.1 c8.2.2.2 w') ?_
      refine k_move (v := .tuple #[.int .u64 (((y3.getD 0 0) + x7 + 0) % 18446744073709551616), .int .u64 (((y3.getD 0 0) + x7 + 0) / 18446744073709551616)]) rfl rfl ?_
      refine k_extract (v := .int .u64 (((y3.getD 0 0) + x7 + 0) % 18446744073709551616)) rfl rfl rfl ?_
      refine k_extract (v := .int .u64 (((y3.getD 0 0) + x7 + 0) / 18446744073709551616)) rfl rfl rfl ?_
      refine k_indexA (n := 4) (s := 1) (j := 0) rfl Try.underlying42 (by kernel_rfl) s2_e239 rfl (by decide) ?_
      refine k_store (v := .int .u64 (((y3.getD 0 0) + x7 + 0) % 18446744073709551616)) 0 0 (r := ⟨g1, 0, ints .u64 y3⟩) rfl (by kernel_rfl) rfl rfl rfl hp rfl rfl rfl (Nat.lt_of_lt_of_eq (Nat.lt_of_lt_of_eq (m := 4) (by decide) (ly3).symm) (ints_length _ _).symm) (by decide) ?_; intro w hp; rw [ints_set] at hp
      refine k_assign (v := .int .u64 (((y3.getD 0 0) + x7 + 0) / 18446744073709551616)) rfl rfl ?_
      refine k_end ?_; intro e240 qe240
      have s2_e240 : e240 2 = .pointer (some ⟨g1, 0, none⟩) := (congrFun qe240 2).trans s2_e239
      have s4_e240 : e240 4 = .pointer (some ⟨g2, 0, none⟩) := (congrFun qe240 4).trans s4_e239
      have s5_e240 : e240 5 = .int .u64 x6 := (congrFun qe240 5).trans s5_e239
      obtain ⟨x9, qx9, h⟩ := lt_e h
      have s7_e240 : e240 7 = .int .u64 x9 := (congrFun qe240 7).trans (congrArg (Value.int .u64) qx9.symm)
      clear qe240
      refine wseq rfl ?_
      refine wregion (.tp 0 (.tk 1 (.tp 2 (.tp 3 (.tp 4 (.tp 5 (.tp 6 (.tp 7 (.tp 8 (.ef 9 (.tp 10 (.done)))))))))))) [9] rfl (by kernel_rfl) (by kernel_rfl) ?_
      refine k_indexA (n := 4) (s := 1) (j := 1) rfl Try.underlying42 (by kernel_rfl) s2_e240 rfl (by decide) ?_
      refine k_load (j := 1) (v := .int .u64 ((y3.set 0 (((y3.getD 0 0) + x7 + 0) % 18446744073709551616)).getD 1 0)) rfl (by kernel_rfl) rfl (hp.get (j := 0) rfl) rfl rfl (ints_get (Nat.lt_of_lt_of_eq (m := 4) (by decide) (List.length_set.trans ly3).symm)) ?_
      refine k_move (v := .int .u64 x6) rfl s5_e240 ?_
      refine k_move (v := .int .u64 x9) rfl s7_e240 ?_
      obtain ⟨c10, h⟩ := chk_e h
      refine k_ext [.int .u64 ((y3.set 0 (((y3.getD 0 0) + x7 + 0) % 18446744073709551616)).getD 1 0), .int .u64 x6, .int .u64 x9] rfl ext54 (args3 rfl rfl rfl) (fun w' => run_add64 ((y3.set 0 (((y3.getD 0 0) + x7 + 0) % 18446744073709551616)).getD 1 0) x6 x9 c10.1 c10.2.1 c10.2.2.1 c10.2.2.2 w') ?_
      refine k_move (v := .tuple #[.int .u64 ((((y3.set 0 (((y3.getD 0 0) + x7 + 0) % 18446744073709551616)).getD 1 0) + x6 + x9) % 18446744073709551616), .int .u64 ((((y3.set 0 (((y3.getD 0 0) + x7 + 0) % 18446744073709551616)).getD 1 0) + x6 + x9) / 18446744073709551616)]) rfl rfl ?_
      refine k_extract (v := .int .u64 ((((y3.set 0 (((y3.getD 0 0) + x7 + 0) % 18446744073709551616)).getD 1 0) + x6 + x9) % 18446744073709551616)) rfl rfl rfl ?_
      refine k_extract (v := .int .u64 ((((y3.set 0 (((y3.getD 0 0) + x7 + 0) % 18446744073709551616)).getD 1 0) + x6 + x9) / 18446744073709551616)) rfl rfl rfl ?_
      refine k_indexA (n := 4) (s := 1) (j := 1) rfl Try.underlying42 (by kernel_rfl) s2_e240 rfl (by decide) ?_
      refine k_store (v := .int .u64 ((((y3.set 0 (((y3.getD 0 0) + x7 + 0) % 18446744073709551616)).getD 1 0) + x6 + x9) % 18446744073709551616)) 0 1 (r := ⟨g1, 0, ints .u64 (y3.set 0 (((y3.getD 0 0) + x7 + 0) % 18446744073709551616))⟩) rfl (by kernel_rfl) rfl rfl rfl hp rfl rfl rfl (Nat.lt_of_lt_of_eq (Nat.lt_of_lt_of_eq (m := 4) (by decide) (List.length_set.trans ly3).symm) (ints_length _ _).symm) (by decide) ?_; intro w hp; rw [ints_set] at hp
      refine k_assign (v := .int .u64 ((((y3.set 0 (((y3.getD 0 0) + x7 + 0) % 18446744073709551616)).getD 1 0) + x6 + x9) / 18446744073709551616)) rfl rfl ?_
      refine k_end ?_; intro e241 qe241
      have s2_e241 : e241 2 = .pointer (some ⟨g1, 0, none⟩) := (congrFun qe241 2).trans s2_e240
      have s4_e241 : e241 4 = .pointer (some ⟨g2, 0, none⟩) := (congrFun qe241 4).trans s4_e240
      obtain ⟨x11, qx11, h⟩ := lt_e h
      have s7_e241 : e241 7 = .int .u64 x11 := (congrFun qe241 7).trans (congrArg (Value.int .u64) qx11.symm)
      clear qe241
      refine wseq rfl ?_
      refine wregion (.tp 0 (.tk 1 (.tp 2 (.tp 3 (.tp 4 (.tp 5 (.tp 6 (.tp 7 (.ef 8 (.tp 9 (.done))))))))))) [8] rfl (by kernel_rfl) (by kernel_rfl) ?_
      refine k_indexA (n := 4) (s := 1) (j := 2) rfl Try.underlying42 (by kernel_rfl) s2_e241 rfl (by decide) ?_
      refine k_load (j := 2) (v := .int .u64 (((y3.set 0 (((y3.getD 0 0) + x7 + 0) % 18446744073709551616)).set 1 ((((y3.set 0 (((y3.getD 0 0) + x7 + 0) % 18446744073709551616)).getD 1 0) + x6 + x9) % 18446744073709551616)).getD 2 0)) rfl (by kernel_rfl) rfl (hp.get (j := 0) rfl) rfl rfl (ints_get (Nat.lt_of_lt_of_eq (m := 4) (by decide) (List.length_set.trans (List.length_set.trans ly3)).symm)) ?_
      refine k_move (v := .int .u64 x11) rfl s7_e241 ?_
      obtain ⟨c12, h⟩ := chk_e h
      refine k_ext [.int .u64 (((y3.set 0 (((y3.getD 0 0) + x7 + 0) % 18446744073709551616)).set 1 ((((y3.set 0 (((y3.getD 0 0) + x7 + 0) % 18446744073709551616)).getD 1 0) + x6 + x9) % 18446744073709551616)).getD 2 0), .int .u64 0, .int .u64 x11] rfl ext54 (args3 rfl rfl rfl) (fun w' => run_add64 (((y3.set 0 (((y3.getD 0 0) + x7 + 0) % 18446744073709551616)).set 1 ((((y3.set 0 (((y3.getD 0 0) + x7 + 0) % 18446744073709551616)).getD 1 0) + x6 + x9) % 18446744073709551616)).getD 2 0) 0 x11 c12.1 c12.2.1 c12.2.2.1 c12.2.2.2 w') ?_
      refine k_move (v := .tuple #[.int .u64 (((((y3.set 0 (((y3.getD 0 0) + x7 + 0) % 18446744073709551616)).set 1 ((((y3.set 0 (((y3.getD 0 0) + x7 + 0) % 18446744073709551616)).getD 1 0) + x6 + x9) % 18446744073709551616)).getD 2 0) + 0 + x11) % 18446744073709551616), .int .u64 (((((y3.set 0 (((y3.getD 0 0) + x7 + 0) % 18446744073709551616)).set 1 ((((y3.set 0 (((y3.getD 0 0) + x7 + 0) % 18446744073709551616)).getD 1 0) + x6 + x9) % 18446744073709551616)).getD 2 0) + 0 + x11) / 18446744073709551616)]) rfl rfl ?_
      refine k_extract (v := .int .u64 (((((y3.set 0 (((y3.getD 0 0) + x7 + 0) % 18446744073709551616)).set 1 ((((y3.set 0 (((y3.getD 0 0) + x7 + 0) % 18446744073709551616)).getD 1 0) + x6 + x9) % 18446744073709551616)).getD 2 0) + 0 + x11) % 18446744073709551616)) rfl rfl rfl ?_
      refine k_extract (v := .int .u64 (((((y3.set 0 (((y3.getD 0 0) + x7 + 0) % 18446744073709551616)).set 1 ((((y3.set 0 (((y3.getD 0 0) + x7 + 0) % 18446744073709551616)).getD 1 0) + x6 + x9) % 18446744073709551616)).getD 2 0) + 0 + x11) / 18446744073709551616)) rfl rfl rfl ?_
      refine k_indexA (n := 4) (s := 1) (j := 2) rfl Try.underlying42 (by kernel_rfl) s2_e241 rfl (by decide) ?_
      refine k_store (v := .int .u64 (((((y3.set 0 (((y3.getD 0 0) + x7 + 0) % 18446744073709551616)).set 1 ((((y3.set 0 (((y3.getD 0 0) + x7 + 0) % 18446744073709551616)).getD 1 0) + x6 + x9) % 18446744073709551616)).getD 2 0) + 0 + x11) % 18446744073709551616)) 0 2 (r := ⟨g1, 0, ints .u64 ((y3.set 0 (((y3.getD 0 0) + x7 + 0) % 18446744073709551616)).set 1 ((((y3.set 0 (((y3.getD 0 0) + x7 + 0) % 18446744073709551616)).getD 1 0) + x6 + x9) % 18446744073709551616))⟩) rfl (by kernel_rfl) rfl rfl rfl hp rfl rfl rfl (Nat.lt_of_lt_of_eq (Nat.lt_of_lt_of_eq (m := 4) (by decide) (List.length_set.trans (List.length_set.trans ly3)).symm) (ints_length _ _).symm) (by decide) ?_; intro w hp; rw [ints_set] at hp
      refine k_assign (v := .int .u64 (((((y3.set 0 (((y3.getD 0 0) + x7 + 0) % 18446744073709551616)).set 1 ((((y3.set 0 (((y3.getD 0 0) + x7 + 0) % 18446744073709551616)).getD 1 0) + x6 + x9) % 18446744073709551616)).getD 2 0) + 0 + x11) / 18446744073709551616)) rfl rfl ?_
      refine k_end ?_; intro e242 qe242
      have s2_e242 : e242 2 = .pointer (some ⟨g1, 0, none⟩) := (congrFun qe242 2).trans s2_e241
      have s4_e242 : e242 4 = .pointer (some ⟨g2, 0, none⟩) := (congrFun qe242 4).trans s4_e241
      obtain ⟨x13, qx13, h⟩ := lt_e h
      have s7_e242 : e242 7 = .int .u64 x13 := (congrFun qe242 7).trans (congrArg (Value.int .u64) qx13.symm)
      clear qe242
      refine wregion (.tp 0 (.tk 1 (.tp 2 (.tp 3 (.tp 4 (.tp 5 (.tp 6 (.tp 7 (.ef 8 (.tp 9 (.done))))))))))) [8] rfl (by kernel_rfl) (by kernel_rfl) ?_
      refine k_indexA (n := 4) (s := 1) (j := 3) rfl Try.underlying42 (by kernel_rfl) s2_e242 rfl (by decide) ?_
      refine k_load (j := 3) (v := .int .u64 ((((y3.set 0 (((y3.getD 0 0) + x7 + 0) % 18446744073709551616)).set 1 ((((y3.set 0 (((y3.getD 0 0) + x7 + 0) % 18446744073709551616)).getD 1 0) + x6 + x9) % 18446744073709551616)).set 2 (((((y3.set 0 (((y3.getD 0 0) + x7 + 0) % 18446744073709551616)).set 1 ((((y3.set 0 (((y3.getD 0 0) + x7 + 0) % 18446744073709551616)).getD 1 0) + x6 + x9) % 18446744073709551616)).getD 2 0) + 0 + x11) % 18446744073709551616)).getD 3 0)) rfl (by kernel_rfl) rfl (hp.get (j := 0) rfl) rfl rfl (ints_get (Nat.lt_of_lt_of_eq (m := 4) (by decide) (List.length_set.trans (List.length_set.trans (List.length_set.trans ly3))).symm)) ?_
      refine k_move (v := .int .u64 x13) rfl s7_e242 ?_
      obtain ⟨c14, h⟩ := chk_e h
      refine k_ext [.int .u64 ((((y3.set 0 (((y3.getD 0 0) + x7 + 0) % 18446744073709551616)).set 1 ((((y3.set 0 (((y3.getD 0 0) + x7 + 0) % 18446744073709551616)).getD 1 0) + x6 + x9) % 18446744073709551616)).set 2 (((((y3.set 0 (((y3.getD 0 0) + x7 + 0) % 18446744073709551616)).set 1 ((((y3.set 0 (((y3.getD 0 0) + x7 + 0) % 18446744073709551616)).getD 1 0) + x6 + x9) % 18446744073709551616)).getD 2 0) + 0 + x11) % 18446744073709551616)).getD 3 0), .int .u64 0, .int .u64 x13] rfl ext54 (args3 rfl rfl rfl) (fun w' => run_add64 ((((y3.set 0 (((y3.getD 0 0) + x7 + 0) % 18446744073709551616)).set 1 ((((y3.set 0 (((y3.getD 0 0) + x7 + 0) % 18446744073709551616)).getD 1 0) + x6 + x9) % 18446744073709551616)).set 2 (((((y3.set 0 (((y3.getD 0 0) + x7 + 0) % 18446744073709551616)).set 1 ((((y3.set 0 (((y3.getD 0 0) + x7 + 0) % 18446744073709551616)).getD 1 0) + x6 + x9) % 18446744073709551616)).getD 2 0) + 0 + x11) % 18446744073709551616)).getD 3 0) 0 x13 c14.1 c14.2.1 c14.2.2.1 c14.2.2.2 w') ?_
      refine k_move (v := .tuple #[.int .u64 ((((((y3.set 0 (((y3.getD 0 0) + x7 + 0) % 18446744073709551616)).set 1 ((((y3.set 0 (((y3.getD 0 0) + x7 + 0) % 18446744073709551616)).getD 1 0) + x6 + x9) % 18446744073709551616)).set 2 (((((y3.set 0 (((y3.getD 0 0) + x7 + 0) % 18446744073709551616)).set 1 ((((y3.set 0 (((y3.getD 0 0) + x7 + 0) % 18446744073709551616)).getD 1 0) + x6 + x9) % 18446744073709551616)).getD 2 0) + 0 + x11) % 18446744073709551616)).getD 3 0) + 0 + x13) % 18446744073709551616), .int .u64 ((((((y3.set 0 (((y3.getD 0 0) + x7 + 0) % 18446744073709551616)).set 1 ((((y3.set 0 (((y3.getD 0 0) + x7 + 0) % 18446744073709551616)).getD 1 0) + x6 + x9) % 18446744073709551616)).set 2 (((((y3.set 0 (((y3.getD 0 0) + x7 + 0) % 18446744073709551616)).set 1 ((((y3.set 0 (((y3.getD 0 0) + x7 + 0) % 18446744073709551616)).getD 1 0) + x6 + x9) % 18446744073709551616)).getD 2 0) + 0 + x11) % 18446744073709551616)).getD 3 0) + 0 + x13) / 18446744073709551616)]) rfl rfl ?_
      refine k_extract (v := .int .u64 ((((((y3.set 0 (((y3.getD 0 0) + x7 + 0) % 18446744073709551616)).set 1 ((((y3.set 0 (((y3.getD 0 0) + x7 + 0) % 18446744073709551616)).getD 1 0) + x6 + x9) % 18446744073709551616)).set 2 (((((y3.set 0 (((y3.getD 0 0) + x7 + 0) % 18446744073709551616)).set 1 ((((y3.set 0 (((y3.getD 0 0) + x7 + 0) % 18446744073709551616)).getD 1 0) + x6 + x9) % 18446744073709551616)).getD 2 0) + 0 + x11) % 18446744073709551616)).getD 3 0) + 0 + x13) % 18446744073709551616)) rfl rfl rfl ?_
      refine k_extract (v := .int .u64 ((((((y3.set 0 (((y3.getD 0 0) + x7 + 0) % 18446744073709551616)).set 1 ((((y3.set 0 (((y3.getD 0 0) + x7 + 0) % 18446744073709551616)).getD 1 0) + x6 + x9) % 18446744073709551616)).set 2 (((((y3.set 0 (((y3.getD 0 0) + x7 + 0) % 18446744073709551616)).set 1 ((((y3.set 0 (((y3.getD 0 0) + x7 + 0) % 18446744073709551616)).getD 1 0) + x6 + x9) % 18446744073709551616)).getD 2 0) + 0 + x11) % 18446744073709551616)).getD 3 0) + 0 + x13) / 18446744073709551616)) rfl rfl rfl ?_
      refine k_indexA (n := 4) (s := 1) (j := 3) rfl Try.underlying42 (by kernel_rfl) s2_e242 rfl (by decide) ?_
      refine k_store (v := .int .u64 ((((((y3.set 0 (((y3.getD 0 0) + x7 + 0) % 18446744073709551616)).set 1 ((((y3.set 0 (((y3.getD 0 0) + x7 + 0) % 18446744073709551616)).getD 1 0) + x6 + x9) % 18446744073709551616)).set 2 (((((y3.set 0 (((y3.getD 0 0) + x7 + 0) % 18446744073709551616)).set 1 ((((y3.set 0 (((y3.getD 0 0) + x7 + 0) % 18446744073709551616)).getD 1 0) + x6 + x9) % 18446744073709551616)).getD 2 0) + 0 + x11) % 18446744073709551616)).getD 3 0) + 0 + x13) % 18446744073709551616)) 0 3 (r := ⟨g1, 0, ints .u64 (((y3.set 0 (((y3.getD 0 0) + x7 + 0) % 18446744073709551616)).set 1 ((((y3.set 0 (((y3.getD 0 0) + x7 + 0) % 18446744073709551616)).getD 1 0) + x6 + x9) % 18446744073709551616)).set 2 (((((y3.set 0 (((y3.getD 0 0) + x7 + 0) % 18446744073709551616)).set 1 ((((y3.set 0 (((y3.getD 0 0) + x7 + 0) % 18446744073709551616)).getD 1 0) + x6 + x9) % 18446744073709551616)).getD 2 0) + 0 + x11) % 18446744073709551616))⟩) rfl (by kernel_rfl) rfl rfl rfl hp rfl rfl rfl (Nat.lt_of_lt_of_eq (Nat.lt_of_lt_of_eq (m := 4) (by decide) (List.length_set.trans (List.length_set.trans (List.length_set.trans ly3))).symm) (ints_length _ _).symm) (by decide) ?_; intro w hp; rw [ints_set] at hp
      refine k_assign (v := .int .u64 ((((((y3.set 0 (((y3.getD 0 0) + x7 + 0) % 18446744073709551616)).set 1 ((((y3.set 0 (((y3.getD 0 0) + x7 + 0) % 18446744073709551616)).getD 1 0) + x6 + x9) % 18446744073709551616)).set 2 (((((y3.set 0 (((y3.getD 0 0) + x7 + 0) % 18446744073709551616)).set 1 ((((y3.set 0 (((y3.getD 0 0) + x7 + 0) % 18446744073709551616)).getD 1 0) + x6 + x9) % 18446744073709551616)).getD 2 0) + 0 + x11) % 18446744073709551616)).getD 3 0) + 0 + x13) / 18446744073709551616)) rfl rfl ?_
      refine k_end ?_; intro e243 qe243
      obtain ⟨x15, qx15, h⟩ := lt_e h
      have s1_e243 : e243 1 = .int .u64 x15 := (congrFun qe243 1).trans (congrArg (Value.int .u64) qx15.symm)
      have s2_e243 : e243 2 = .pointer (some ⟨g1, 0, none⟩) := (congrFun qe243 2).trans s2_e242
      have s4_e243 : e243 4 = .pointer (some ⟨g2, 0, none⟩) := (congrFun qe243 4).trans s4_e242
      clear qe243
      exact ih ((((y3.set 0 (((y3.getD 0 0) + x7 + 0) % 18446744073709551616)).set 1 ((((y3.set 0 (((y3.getD 0 0) + x7 + 0) % 18446744073709551616)).getD 1 0) + x6 + x9) % 18446744073709551616)).set 2 (((((y3.set 0 (((y3.getD 0 0) + x7 + 0) % 18446744073709551616)).set 1 ((((y3.set 0 (((y3.getD 0 0) + x7 + 0) % 18446744073709551616)).getD 1 0) + x6 + x9) % 18446744073709551616)).getD 2 0) + 0 + x11) % 18446744073709551616)).set 3 ((((((y3.set 0 (((y3.getD 0 0) + x7 + 0) % 18446744073709551616)).set 1 ((((y3.set 0 (((y3.getD 0 0) + x7 + 0) % 18446744073709551616)).getD 1 0) + x6 + x9) % 18446744073709551616)).set 2 (((((y3.set 0 (((y3.getD 0 0) + x7 + 0) % 18446744073709551616)).set 1 ((((y3.set 0 (((y3.getD 0 0) + x7 + 0) % 18446744073709551616)).getD 1 0) + x6 + x9) % 18446744073709551616)).getD 2 0) + 0 + x11) % 18446744073709551616)).getD 3 0) + 0 + x13) % 18446744073709551616)) x15 _ _ (List.length_set.trans (List.length_set.trans (List.length_set.trans (List.length_set.trans ly3)))) s1_e243 s2_e243 s4_e243 (hp.drop (L' := [⟨g1, 0, ints .u64 ((((y3.set 0 (((y3.getD 0 0) + x7 + 0) % 18446744073709551616)).set 1 ((((y3.set 0 (((y3.getD 0 0) + x7 + 0) % 18446744073709551616)).getD 1 0) + x6 + x9) % 18446744073709551616)).set 2 (((((y3.set 0 (((y3.getD 0 0) + x7 + 0) % 18446744073709551616)).set 1 ((((y3.set 0 (((y3.getD 0 0) + x7 + 0) % 18446744073709551616)).getD 1 0) + x6 + x9) % 18446744073709551616)).getD 2 0) + 0 + x11) % 18446744073709551616)).set 3 ((((((y3.set 0 (((y3.getD 0 0) + x7 + 0) % 18446744073709551616)).set 1 ((((y3.set 0 (((y3.getD 0 0) + x7 + 0) % 18446744073709551616)).getD 1 0) + x6 + x9) % 18446744073709551616)).set 2 (((((y3.set 0 (((y3.getD 0 0) + x7 + 0) % 18446744073709551616)).set 1 ((((y3.set 0 (((y3.getD 0 0) + x7 + 0) % 18446744073709551616)).getD 1 0) + x6 + x9) % 18446744073709551616)).getD 2 0) + 0 + x11) % 18446744073709551616)).getD 3 0) + 0 + x13) % 18446744073709551616))⟩, ⟨g2, 0, ints .u64 (List.replicate 4 (0 : Int))⟩]) (List.Sublist.refl _)) h
    · replace h := br_f hb h
      refine wexit rfl ?_
      exact hQ0 _ _ y3 ly3 s2_e237 s4_e237 (hp.drop (L' := [⟨g1, 0, ints .u64 y3⟩, ⟨g2, 0, ints .u64 (List.replicate 4 (0 : Int))⟩]) (List.Sublist.refl _)) (Option.some.inj h).symm
theorem postilionref04_fold_ok (k : Nat) (a0 : List Int) (a1 : Int) (la0 : a0.length = 4) (w0 : World) (hp : Hp w0 [] w0 [] []) {r : List Int} (h : postilionref04_fold.f k a0 a1 = some r) :
    Calls Try.prog 55 [.agg (ints .u64 a0).toArray, .int .u64 a1].toArray w0 fun x w' => ∃ v, x = .returned v ∧ v = .agg (ints .u64 r).toArray ∧ r.length = 4 ∧ Hp w0 [] w' [] [] := by
  refine calls_in Try.func55 rfl (Nat.le_of_ble_eq_true (by kernel_rfl)) (by kernel_rfl) ?_
  intro e0 qe0
  have s0_e0 : e0 0 = .agg (ints .u64 a0).toArray := congrFun qe0 0
  have s1_e0 : e0 1 = .int .u64 a1 := congrFun qe0 1
  clear qe0
  unfold postilionref04_fold.f at h
  refine wseq rfl ?_
  refine wregion (.ef 0 (.ef 1 (.done))) [] rfl (by kernel_rfl) (by kernel_rfl) ?_
  refine k_box (v := .agg (ints .u64 a0).toArray) (ints .u64 a0) rfl s0_e0 rfl hp ?_
  intro g1 w hbg1 hp
  refine k_alloc (ints .u64 (List.replicate 4 (0 : Int))) rfl (by kernel_rfl) hp ?_
  intro g2 w hbg2 hp
  refine k_end ?_; intro e236 qe236
  have s1_e236 : e236 1 = .int .u64 a1 := (congrFun qe236 1).trans s1_e0
  have s2_e236 : e236 2 = .pointer (some ⟨g1, 0, none⟩) := congrFun qe236 2
  have s4_e236 : e236 4 = .pointer (some ⟨g2, 0, none⟩) := congrFun qe236 4
  clear qe236
  refine wseq rfl ?_
  refine wblock rfl ?_
  obtain ⟨r16, qr16, h⟩ := bd_e h
  refine wloop k rfl (postilionref04_fold.p1_ok g1 g2   ?hq0 k a0 a1 e236 _ la0 s1_e236 s2_e236 s4_e236 hp qr16)
  case hq0 =>
    intro e244 w m17 lm17 s2_e244 s4_e244 hp qq
    rw [qq] at h; clear qq
    refine wseq rfl ?_
    refine wregion (.tk 0 (.ef 1 (.done))) [1] rfl (by kernel_rfl) (by kernel_rfl) ?_
    refine k_loadA (n := 4) (xs := ints .u64 m17) 0 rfl (by kernel_rfl) (by kernel_rfl) s2_e244 (hp.get (j := 0) rfl) rfl rfl ((ints_length _ _).trans lm17) (fun m v hm => by rw [Nat.zero_add]; exact hm) ?_
    refine k_storeA (v := .agg (ints .u64 m17).toArray) 1 0 (r := ⟨g2, 0, ints .u64 (List.replicate 4 (0 : Int))⟩) (ints .u64 m17) (ints .u64 m17) rfl (n := 4) (by kernel_rfl) s4_e244 rfl rfl ((ints_length _ _).trans lm17) (ints_one _ _) hp rfl rfl rfl (Nat.le_of_eq ((Nat.zero_add _).trans ((ints_length _ _).trans List.length_replicate).symm)) (setMany_all _ _ (((ints_length _ _).trans lm17).trans ((ints_length _ _).trans List.length_replicate).symm)) (by decide) ?_; intro w hp
    refine k_end ?_; intro e245 qe245
    have s4_e245 : e245 4 = .pointer (some ⟨g2, 0, none⟩) := (congrFun qe245 4).trans s4_e244
    clear qe245
    refine wret rfl ?_
    have hr : r = m17 := (Option.some.inj h).symm
    show RetP _ _ _ _ _
    rw [hr]
    exact ret_i [.agg (ints .u64 m17).toArray] (res_cell s4_e245 (loadVar_agg (by kernel_rfl) (by kernel_rfl) ((ints_length _ _).trans lm17) (hp.get (j := 1) rfl) rfl rfl rfl) res_nil) ⟨rfl, lm17, hp.none⟩
/-! 37 postilion/postilionref04.Times -/
theorem postilionref04_Times.p2_ok {w0 : World} {Ws : List Wr} {Q : Exit → Env → World → Prop} (g1 g2 g3 g4 : Nat) (y6 : Int) (a0 : List Int) (a1 : List Int) (l_a0 : a0.length = 4) (l_a1 : a1.length = 4) {r : Int × List Int} (hQ0 : ∀ (e' : Env) (w' : World) (z0 : Int) (z1 : List Int), z1.length = 8 → e' 2 = .pointer (some ⟨g1, 0, none⟩) → e' 3 = .pointer (some ⟨g2, 0, none⟩) → e' 4 = .pointer (some ⟨g3, 0, none⟩) → e' 5 = .pointer (some ⟨g4, 0, none⟩) → e' 6 = .int .i64 y6 → e' 7 = .int .u64 z0 → e' 19 = .int .i64 y6 → Hp w0 Ws w' [⟨g1, 0, ints .u64 a0⟩, ⟨g2, 0, ints .u64 a1⟩, ⟨g3, 0, ints .u64 (List.replicate 4 (0 : Int))⟩, ⟨g4, 0, ints .u64 z1⟩] [] → r = (z0, z1) → Q (.exit 2) e' w') : ∀ (k : Nat), ∀ (y7 : List Int) (y8 : Int) (y9 : Int) (e : Env) (w : World) (ly7 : y7.length = 8) (s2_e : e 2 = .pointer (some ⟨g1, 0, none⟩)) (s3_e : e 3 = .pointer (some ⟨g2, 0, none⟩)) (s4_e : e 4 = .pointer (some ⟨g3, 0, none⟩)) (s5_e : e 5 = .pointer (some ⟨g4, 0, none⟩)) (s6_e : e 6 = .int .i64 y6) (s7_e : e 7 = .int .u64 y8) (s19_e : e 19 = .int .i64 y6) (s22_e : e 22 = .int .i64 y9) (hp : Hp w0 Ws w [⟨g1, 0, ints .u64 a0⟩, ⟨g2, 0, ints .u64 a1⟩, ⟨g3, 0, ints .u64 (List.replicate 4 (0 : Int))⟩, ⟨g4, 0, ints .u64 y7⟩] []) (h : postilionref04_Times.p2 k y6 a0 a1 y7 y8 y9 = some r), Lp Try.prog Try.f37.ntmps (at_ (fbody Try.f37) [1, 1, 0, 1, 0, 0, 1, 1, 0, 0, 1, 1, 0, 1, 0, 0]) Q k e w := by
  intro k
  induction k with
  | zero => intro y7 y8 y9 e w ly7 s2_e s3_e s4_e s5_e s6_e s7_e s19_e s22_e hp h; cases h
  | succ k ih =>
    intro y7 y8 y9 e w ly7 s2_e s3_e s4_e s5_e s6_e s7_e s19_e s22_e hp h
    unfold postilionref04_Times.p2 at h
    show Wp _ _ _ _ _ _
    refine wseq rfl ?_
    refine wregion (.tp 0 (.done)) [] rfl (by kernel_rfl) (by kernel_rfl) ?_
    refine k_bin (X := .int .i64 y9) (Y := .int .i64 4) rfl s22_e rfl rfl ?_
    refine k_end ?_; intro e253 qe253
    have s2_e253 : e253 2 = .pointer (some ⟨g1, 0, none⟩) := (congrFun qe253 2).trans s2_e
    have s3_e253 : e253 3 = .pointer (some ⟨g2, 0, none⟩) := (congrFun qe253 3).trans s3_e
    have s4_e253 : e253 4 = .pointer (some ⟨g3, 0, none⟩) := (congrFun qe253 4).trans s4_e
    have s5_e253 : e253 5 = .pointer (some ⟨g4, 0, none⟩) := (congrFun qe253 5).trans s5_e
    have s6_e253 : e253 6 = .int .i64 y6 := (congrFun qe253 6).trans s6_e
    have s7_e253 : e253 7 = .int .u64 y8 := (congrFun qe253 7).trans s7_e
    have s19_e253 : e253 19 = .int .i64 y6 := (congrFun qe253 19).trans s19_e
    have s22_e253 : e253 22 = .int .i64 y9 := (congrFun qe253 22).trans s22_e
    have s23_e253 : e253 23 = .bool (decide (y9 < 4)) := congrFun qe253 23
    clear qe253
    refine wseq rfl ?_
    refine wcond (t := (decide (y9 < 4))) rfl (by decide) s23_e253 (fun hb => ?_) (fun hb => ?_)
    · replace h := br_t hb h
      refine wskip rfl ?_
      refine wseq rfl ?_
      refine wblock rfl ?_
      refine wseq rfl ?_
      refine wregion (.tp 0 (.tp 1 (.done))) [] rfl (by kernel_rfl) (by kernel_rfl) ?_
      refine k_move (v := .int .i64 y9) rfl s22_e253 ?_
      refine k_assign (v := .int .i64 y9) rfl rfl ?_
      refine k_end ?_; intro e254 qe254
      have s2_e254 : e254 2 = .pointer (some ⟨g1, 0, none⟩) := (congrFun qe254 2).trans s2_e253
      have s3_e254 : e254 3 = .pointer (some ⟨g2, 0, none⟩) := (congrFun qe254 3).trans s3_e253
      have s4_e254 : e254 4 = .pointer (some ⟨g3, 0, none⟩) := (congrFun qe254 4).trans s4_e253
      have s5_e254 : e254 5 = .pointer (some ⟨g4, 0, none⟩) := (congrFun qe254 5).trans s5_e253
      have s6_e254 : e254 6 = .int .i64 y6 := (congrFun qe254 6).trans s6_e253
      have s7_e254 : e254 7 = .int .u64 y8 := (congrFun qe254 7).trans s7_e253
      have s8_e254 : e254 8 = .int .i64 y9 := congrFun qe254 8
      have s19_e254 : e254 19 = .int .i64 y6 := (congrFun qe254 19).trans s19_e253
      have s22_e254 : e254 22 = .int .i64 y9 := (congrFun qe254 22).trans s22_e253
      clear qe254
      refine wseq rfl ?_
      refine wregion_m (.tp 0 (.tp 1 (.tk 2 (.tp 3 (.tp 4 (.tk 5 (.ef 6 (.tp 7 (.tp 8 (.tp 9 (.tp 10 (.tp 11 (.done))))))))))))) [] [(0, 0, 4095), (1, 1, 4095), (2, 2, 0), (0, 0, 4095), (8, 8, 4095), (16, 16, 0), (36, 4095, 4095), (64, 64, 4095), (128, 128, 4095), (128, 128, 4095), (511, 256, 4095), (2047, 512, 4095)] rfl (by kernel_rfl) (by kernel_rfl) (Nat.le_of_ble_eq_true (by kernel_rfl)) (by kernel_rfl) (by kernel_rfl) ?_
      have hp := hp.drew
      refine k_move (v := .int .i64 y6) rfl s6_e254 ?_
      obtain ⟨c10, h⟩ := chk_e h
      refine k_indexA (n := 4) (s := 1) (j := y6) rfl Try.underlying42 (by kernel_rfl) s2_e254 rfl c10 ?_
      refine k_load (j := (y6 : Int).toNat) (v := .int .u64 (a0.getD (y6 : Int).toNat 0)) rfl (by kernel_rfl) rfl (hp.get (j := 0) rfl) rfl (show 0 + (y6 : Int).toNat * 1 = 0 + (y6 : Int).toNat by omega) (ints_get (idx_lt c10 l_a0)) ?_
      refine k_move (v := .int .i64 y9) rfl s8_e254 ?_
      obtain ⟨c11, h⟩ := chk_e h
      refine k_indexA (n := 4) (s := 1) (j := y9) rfl Try.underlying42 (by kernel_rfl) s3_e254 rfl c11 ?_
      refine k_load (j := (y9 : Int).toNat) (v := .int .u64 (a1.getD (y9 : Int).toNat 0)) rfl (by kernel_rfl) rfl (hp.get (j := 1) rfl) rfl (show 0 + (y9 : Int).toNat * 1 = 0 + (y9 : Int).toNat by omega) (ints_get (idx_lt c11 l_a1)) ?_
      obtain ⟨r12, qr12, h⟩ := bd_e h
      refine k_call [.int .u64 (a0.getD (y6 : Int).toNat 0), .int .u64 (a1.getD (y9 : Int).toNat 0)] rfl (by kernel_rfl) (args2 rfl rfl) (math_bits_Mul64_ok (a0.getD (y6 : Int).toNat 0) (a1.getD (y9 : Int).toNat 0)  _ (hp.toR (fun _ h => by cases h)) qr12) ?_
      rintro _ w' ⟨_, rfl, rfl, hpc⟩
      refine ⟨_, rfl, .inr (.of_below hpc.chg.to_below), ?_⟩; have hp := hp.below hpc.chg.to_below; clear hpc
      refine k_move (v := .tuple #[.int .u64 r12.1, .int .u64 r12.2]) rfl rfl ?_
      refine k_extract (v := .int .u64 r12.1) rfl rfl rfl ?_
      refine k_extract (v := .int .u64 r12.2) rfl rfl rfl ?_
      refine k_assign (v := .int .u64 r12.1) rfl rfl ?_
      refine k_assign (v := .int .u64 r12.2) rfl rfl ?_
      refine k_end ?_; intro e255 qe255
      have s2_e255 : e255 2 = .pointer (some ⟨g1, 0, none⟩) := (congrFun qe255 2).trans s2_e254
      have s3_e255 : e255 3 = .pointer (some ⟨g2, 0, none⟩) := (congrFun qe255 3).trans s3_e254
      have s4_e255 : e255 4 = .pointer (some ⟨g3, 0, none⟩) := (congrFun qe255 4).trans s4_e254
      have s5_e255 : e255 5 = .pointer (some ⟨g4, 0, none⟩) := (congrFun qe255 5).trans s5_e254
      have s6_e255 : e255 6 = .int .i64 y6 := (congrFun qe255 6).trans s6_e254
      have s7_e255 : e255 7 = .int .u64 y8 := (congrFun qe255 7).trans s7_e254
      have s8_e255 : e255 8 = .int .i64 y9 := (congrFun qe255 8).trans s8_e254
      obtain ⟨x13, qx13, h⟩ := lt_e h
      have s9_e255 : e255 9 = .int .u64 x13 := (congrFun qe255 9).trans (congrArg (Value.int .u64) qx13.symm)
      obtain ⟨x14, qx14, h⟩ := lt_e h
      have s10_e255 : e255 10 = .int .u64 x14 := (congrFun qe255 10).trans (congrArg (Value.int .u64) qx14.symm)
      have s19_e255 : e255 19 = .int .i64 y6 := (congrFun qe255 19).trans s19_e254
      have s22_e255 : e255 22 = .int .i64 y9 := (congrFun qe255 22).trans s22_e254
      clear qe255
      refine wseq rfl ?_
      refine wregion (.tp 0 (.done)) [] rfl (by kernel_rfl) (by kernel_rfl) ?_
      refine k_assign (v := .int .u64 0) rfl rfl ?_
      refine k_end ?_; intro e256 qe256
      have s2_e256 : e256 2 = .pointer (some ⟨g1, 0, none⟩) := (congrFun qe256 2).trans s2_e255
      have s3_e256 : e256 3 = .pointer (some ⟨g2, 0, none⟩) := (congrFun qe256 3).trans s3_e255
      have s4_e256 : e256 4 = .pointer (some ⟨g3, 0, none⟩) := (congrFun qe256 4).trans s4_e255
      have s5_e256 : e256 5 = .pointer (some ⟨g4, 0, none⟩) := (congrFun qe256 5).trans s5_e255
      have s6_e256 : e256 6 = .int .i64 y6 := (congrFun qe256 6).trans s6_e255
      have s7_e256 : e256 7 = .int .u64 y8 := (congrFun qe256 7).trans s7_e255
      have s8_e256 : e256 8 = .int .i64 y9 := (congrFun qe256 8).trans s8_e255
      have s9_e256 : e256 9 = .int .u64 x13 := (congrFun qe256 9).trans s9_e255
      have s10_e256 : e256 10 = .int .u64 x14 := (congrFun qe256 10).trans s10_e255
      have s19_e256 : e256 19 = .int .i64 y6 := (congrFun qe256 19).trans s19_e255
      have s22_e256 : e256 22 = .int .i64 y9 := (congrFun qe256 22).trans s22_e255
      clear qe256
      refine wseq rfl ?_
      refine wregion (.tp 0 (.tp 1 (.tp 2 (.tp 3 (.tp 4 (.tk 5 (.tp 6 (.tp 7 (.tp 8 (.tp 9 (.tp 10 (.tp 11 (.done))))))))))))) [] rfl (by kernel_rfl) (by kernel_rfl) ?_
      refine k_move (v := .int .u64 x14) rfl s10_e256 ?_
      refine k_move (v := .int .i64 y6) rfl s6_e256 ?_
      refine k_move (v := .int .i64 y9) rfl s8_e256 ?_
      refine k_bin (X := .int .i64 y6) (Y := .int .i64 y9) rfl rfl rfl rfl ?_
      obtain ⟨c15, h⟩ := chk_e h
      refine k_indexA (n := 8) (s := 1) (j := (IntKind.i64.wrap (y6 + y9))) rfl Try.underlying67 (by kernel_rfl) s5_e256 rfl c15 ?_
      refine k_load (j := ((IntKind.i64.wrap (y6 + y9)) : Int).toNat) (v := .int .u64 (y7.getD ((IntKind.i64.wrap (y6 + y9)) : Int).toNat 0)) rfl (by kernel_rfl) rfl (hp.get (j := 3) rfl) rfl (show 0 + ((IntKind.i64.wrap (y6 + y9)) : Int).toNat * 1 = 0 + ((IntKind.i64.wrap (y6 + y9)) : Int).toNat by omega) (ints_get (idx_lt c15 ly7)) ?_
      obtain ⟨c16, h⟩ := chk_e h
      refine k_ext [.int .u64 x14, .int .u64 (y7.getD ((IntKind.i64.wrap (y6 + y9)) : Int).toNat 0), .int .u64 0] rfl ext54 (args3 rfl rfl rfl) (fun w' => run_add64 x14 (y7.getD ((IntKind.i64.wrap (y6 + y9)) : Int).toNat 0) 0 c16.1 c16.2.1 c16.2.2.1 c16.2.2.2 w') ?_
      refine k_move (v := .tuple #[.int .u64 ((x14 + (y7.getD ((IntKind.i64.wrap (y6 + y9)) : Int).toNat 0) + 0) % 18446744073709551616), .int .u64 ((x14 + (y7.getD ((IntKind.i64.wrap (y6 + y9)) : Int).toNat 0) + 0) / 18446744073709551616)]) rfl rfl ?_
      refine k_extract (v := .int .u64 ((x14 + (y7.getD ((IntKind.i64.wrap (y6 + y9)) : Int).toNat 0) + 0) % 18446744073709551616)) rfl rfl rfl ?_
      refine k_extract (v := .int .u64 ((x14 + (y7.getD ((IntKind.i64.wrap (y6 + y9)) : Int).toNat 0) + 0) / 18446744073709551616)) rfl rfl rfl ?_
      refine k_assign (v := .int .u64 ((x14 + (y7.getD ((IntKind.i64.wrap (y6 + y9)) : Int).toNat 0) + 0) % 18446744073709551616)) rfl rfl ?_
      refine k_assign (v := .int .u64 ((x14 + (y7.getD ((IntKind.i64.wrap (y6 + y9)) : Int).toNat 0) + 0) / 18446744073709551616)) rfl rfl ?_
      refine k_end ?_; intro e257 qe257
      have s2_e257 : e257 2 = .pointer (some ⟨g1, 0, none⟩) := (congrFun qe257 2).trans s2_e256
      have s3_e257 : e257 3 = .pointer (some ⟨g2, 0, none⟩) := (congrFun qe257 3).trans s3_e256
      have s4_e257 : e257 4 = .pointer (some ⟨g3, 0, none⟩) := (congrFun qe257 4).trans s4_e256
      have s5_e257 : e257 5 = .pointer (some ⟨g4, 0, none⟩) := (congrFun qe257 5).trans s5_e256
      have s6_e257 : e257 6 = .int .i64 y6 := (congrFun qe257 6).trans s6_e256
      have s7_e257 : e257 7 = .int .u64 y8 := (congrFun qe257 7).trans s7_e256
      have s8_e257 : e257 8 = .int .i64 y9 := (congrFun qe257 8).trans s8_e256
      have s9_e257 : e257 9 = .int .u64 x13 := (congrFun qe257 9).trans s9_e256
      obtain ⟨x17, qx17, h⟩ := lt_e h
      have s10_e257 : e257 10 = .int .u64 x17 := (congrFun qe257 10).trans (congrArg (Value.int .u64) qx17.symm)
      obtain ⟨x18, qx18, h⟩ := lt_e h
      have s11_e257 : e257 11 = .int .u64 x18 := (congrFun qe257 11).trans (congrArg (Value.int .u64) qx18.symm)
      have s19_e257 : e257 19 = .int .i64 y6 := (congrFun qe257 19).trans s19_e256
      have s22_e257 : e257 22 = .int .i64 y9 := (congrFun qe257 22).trans s22_e256
      clear qe257
      refine wseq rfl ?_
      refine wregion (.tp 0 (.tp 1 (.tp 2 (.tp 3 (.done))))) [] rfl (by kernel_rfl) (by kernel_rfl) ?_
      refine k_move (v := .int .u64 x13) rfl s9_e257 ?_
      refine k_move (v := .int .u64 x18) rfl s11_e257 ?_
      refine k_bin (X := .int .u64 x13) (Y := .int .u64 x18) rfl rfl rfl rfl ?_
      refine k_assign (v := .int .u64 (IntKind.u64.wrap (x13 + x18))) rfl rfl ?_
      refine k_end ?_; intro e258 qe258
      have s2_e258 : e258 2 = .pointer (some ⟨g1, 0, none⟩) := (congrFun qe258 2).trans s2_e257
      have s3_e258 : e258 3 = .pointer (some ⟨g2, 0, none⟩) := (congrFun qe258 3).trans s3_e257
      have s4_e258 : e258 4 = .pointer (some ⟨g3, 0, none⟩) := (congrFun qe258 4).trans s4_e257
      have s5_e258 : e258 5 = .pointer (some ⟨g4, 0, none⟩) := (congrFun qe258 5).trans s5_e257
      have s6_e258 : e258 6 = .int .i64 y6 := (congrFun qe258 6).trans s6_e257
      have s7_e258 : e258 7 = .int .u64 y8 := (congrFun qe258 7).trans s7_e257
      have s8_e258 : e258 8 = .int .i64 y9 := (congrFun qe258 8).trans s8_e257
      obtain ⟨x19, qx19, h⟩ := lt_e h
      have s9_e258 : e258 9 = .int .u64 x19 := (congrFun qe258 9).trans (congrArg (Value.int .u64) qx19.symm)
      have s10_e258 : e258 10 = .int .u64 x17 := (congrFun qe258 10).trans s10_e257
      have s19_e258 : e258 19 = .int .i64 y6 := (congrFun qe258 19).trans s19_e257
      have s22_e258 : e258 22 = .int .i64 y9 := (congrFun qe258 22).trans s22_e257
      clear qe258
      refine wseq rfl ?_
      refine wregion (.tp 0 (.tp 1 (.tp 2 (.tp 3 (.tp 4 (.tp 5 (.tp 6 (.tp 7 (.done))))))))) [] rfl (by kernel_rfl) (by kernel_rfl) ?_
      refine k_move (v := .int .u64 x17) rfl s10_e258 ?_
      refine k_move (v := .int .u64 y8) rfl s7_e258 ?_
      obtain ⟨c20, h⟩ := chk_e h
      refine k_ext [.int .u64 x17, .int .u64 y8, .int .u64 0] rfl ext54 (args3 rfl rfl rfl) (fun w' => run_add64 x17 y8 0 c20.1 c20.2.1 c20.2.2.1 c20.2.2.2 w') ?_
      refine k_move (v := .tuple #[.int .u64 ((x17 + y8 + 0) % 18446744073709551616), .int .u64 ((x17 + y8 + 0) / 18446744073709551616)]) rfl rfl ?_
      refine k_extract (v := .int .u64 ((x17 + y8 + 0) % 18446744073709551616)) rfl rfl rfl ?_
      refine k_extract (v := .int .u64 ((x17 + y8 + 0) / 18446744073709551616)) rfl rfl rfl ?_
      refine k_assign (v := .int .u64 ((x17 + y8 + 0) % 18446744073709551616)) rfl rfl ?_
      refine k_assign (v := .int .u64 ((x17 + y8 + 0) / 18446744073709551616)) rfl rfl ?_
      refine k_end ?_; intro e259 qe259
      have s2_e259 : e259 2 = .pointer (some ⟨g1, 0, none⟩) := (congrFun qe259 2).trans s2_e258
      have s3_e259 : e259 3 = .pointer (some ⟨g2, 0, none⟩) := (congrFun qe259 3).trans s3_e258
      have s4_e259 : e259 4 = .pointer (some ⟨g3, 0, none⟩) := (congrFun qe259 4).trans s4_e258
      have s5_e259 : e259 5 = .pointer (some ⟨g4, 0, none⟩) := (congrFun qe259 5).trans s5_e258
      have s6_e259 : e259 6 = .int .i64 y6 := (congrFun qe259 6).trans s6_e258
      have s8_e259 : e259 8 = .int .i64 y9 := (congrFun qe259 8).trans s8_e258
      have s9_e259 : e259 9 = .int .u64 x19 := (congrFun qe259 9).trans s9_e258
      obtain ⟨x21, qx21, h⟩ := lt_e h
      have s10_e259 : e259 10 = .int .u64 x21 := (congrFun qe259 10).trans (congrArg (Value.int .u64) qx21.symm)
      obtain ⟨x22, qx22, h⟩ := lt_e h
      have s11_e259 : e259 11 = .int .u64 x22 := (congrFun qe259 11).trans (congrArg (Value.int .u64) qx22.symm)
      have s19_e259 : e259 19 = .int .i64 y6 := (congrFun qe259 19).trans s19_e258
      have s22_e259 : e259 22 = .int .i64 y9 := (congrFun qe259 22).trans s22_e258
      clear qe259
      refine wseq rfl ?_
      refine wregion (.tp 0 (.tp 1 (.tp 2 (.tp 3 (.done))))) [] rfl (by kernel_rfl) (by kernel_rfl) ?_
      refine k_move (v := .int .u64 x19) rfl s9_e259 ?_
      refine k_move (v := .int .u64 x22) rfl s11_e259 ?_
      refine k_bin (X := .int .u64 x19) (Y := .int .u64 x22) rfl rfl rfl rfl ?_
      refine k_assign (v := .int .u64 (IntKind.u64.wrap (x19 + x22))) rfl rfl ?_
      refine k_end ?_; intro e260 qe260
      have s2_e260 : e260 2 = .pointer (some ⟨g1, 0, none⟩) := (congrFun qe260 2).trans s2_e259
      have s3_e260 : e260 3 = .pointer (some ⟨g2, 0, none⟩) := (congrFun qe260 3).trans s3_e259
      have s4_e260 : e260 4 = .pointer (some ⟨g3, 0, none⟩) := (congrFun qe260 4).trans s4_e259
      have s5_e260 : e260 5 = .pointer (some ⟨g4, 0, none⟩) := (congrFun qe260 5).trans s5_e259
      have s6_e260 : e260 6 = .int .i64 y6 := (congrFun qe260 6).trans s6_e259
      have s8_e260 : e260 8 = .int .i64 y9 := (congrFun qe260 8).trans s8_e259
      obtain ⟨x23, qx23, h⟩ := lt_e h
      have s9_e260 : e260 9 = .int .u64 x23 := (congrFun qe260 9).trans (congrArg (Value.int .u64) qx23.symm)
      have s10_e260 : e260 10 = .int .u64 x21 := (congrFun qe260 10).trans s10_e259
      have s19_e260 : e260 19 = .int .i64 y6 := (congrFun qe260 19).trans s19_e259
      have s22_e260 : e260 22 = .int .i64 y9 := (congrFun qe260 22).trans s22_e259
      clear qe260
      refine wseq rfl ?_
      refine wregion (.tp 0 (.tp 1 (.tp 2 (.tp 3 (.tp 4 (.ef 5 (.done))))))) [5] rfl (by kernel_rfl) (by kernel_rfl) ?_
      refine k_move (v := .int .i64 y6) rfl s6_e260 ?_
      refine k_move (v := .int .i64 y9) rfl s8_e260 ?_
      refine k_bin (X := .int .i64 y6) (Y := .int .i64 y9) rfl rfl rfl rfl ?_
      refine k_move (v := .int .u64 x21) rfl s10_e260 ?_
      refine k_indexA (n := 8) (s := 1) (j := (IntKind.i64.wrap (y6 + y9))) rfl Try.underlying67 (by kernel_rfl) s5_e260 rfl c15 ?_
      refine k_store (v := .int .u64 x21) 3 ((IntKind.i64.wrap (y6 + y9)) : Int).toNat (r := ⟨g4, 0, ints .u64 y7⟩) rfl (by kernel_rfl) rfl rfl rfl hp rfl rfl (show 0 + ((IntKind.i64.wrap (y6 + y9)) : Int).toNat * 1 = 0 + ((IntKind.i64.wrap (y6 + y9)) : Int).toNat by omega) (Nat.lt_of_lt_of_eq (idx_lt c15 ly7) (ints_length _ _).symm) (by decide) ?_; intro w hp; rw [ints_set] at hp
      refine k_end ?_; intro e261 qe261
      have s2_e261 : e261 2 = .pointer (some ⟨g1, 0, none⟩) := (congrFun qe261 2).trans s2_e260
      have s3_e261 : e261 3 = .pointer (some ⟨g2, 0, none⟩) := (congrFun qe261 3).trans s3_e260
      have s4_e261 : e261 4 = .pointer (some ⟨g3, 0, none⟩) := (congrFun qe261 4).trans s4_e260
      have s5_e261 : e261 5 = .pointer (some ⟨g4, 0, none⟩) := (congrFun qe261 5).trans s5_e260
      have s6_e261 : e261 6 = .int .i64 y6 := (congrFun qe261 6).trans s6_e260
      have s9_e261 : e261 9 = .int .u64 x23 := (congrFun qe261 9).trans s9_e260
      have s19_e261 : e261 19 = .int .i64 y6 := (congrFun qe261 19).trans s19_e260
      have s22_e261 : e261 22 = .int .i64 y9 := (congrFun qe261 22).trans s22_e260
      clear qe261
      refine wregion (.tp 0 (.tp 1 (.done))) [] rfl (by kernel_rfl) (by kernel_rfl) ?_
      refine k_move (v := .int .u64 x23) rfl s9_e261 ?_
      refine k_assign (v := .int .u64 x23) rfl rfl ?_
      refine k_end ?_; intro e262 qe262
      have s2_e262 : e262 2 = .pointer (some ⟨g1, 0, none⟩) := (congrFun qe262 2).trans s2_e261
      have s3_e262 : e262 3 = .pointer (some ⟨g2, 0, none⟩) := (congrFun qe262 3).trans s3_e261
      have s4_e262 : e262 4 = .pointer (some ⟨g3, 0, none⟩) := (congrFun qe262 4).trans s4_e261
      have s5_e262 : e262 5 = .pointer (some ⟨g4, 0, none⟩) := (congrFun qe262 5).trans s5_e261
      have s6_e262 : e262 6 = .int .i64 y6 := (congrFun qe262 6).trans s6_e261
      have s7_e262 : e262 7 = .int .u64 x23 := congrFun qe262 7
      have s19_e262 : e262 19 = .int .i64 y6 := (congrFun qe262 19).trans s19_e261
      have s22_e262 : e262 22 = .int .i64 y9 := (congrFun qe262 22).trans s22_e261
      clear qe262
      refine wregion (.tp 0 (.tp 1 (.done))) [] rfl (by kernel_rfl) (by kernel_rfl) ?_
      refine k_bin (X := .int .i64 y9) (Y := .int .i64 1) rfl s22_e262 rfl rfl ?_
      refine k_move (v := .int .i64 (IntKind.i64.wrap (y9 + 1))) rfl rfl ?_
      refine k_end ?_; intro e263 qe263
      have s2_e263 : e263 2 = .pointer (some ⟨g1, 0, none⟩) := (congrFun qe263 2).trans s2_e262
      have s3_e263 : e263 3 = .pointer (some ⟨g2, 0, none⟩) := (congrFun qe263 3).trans s3_e262
      have s4_e263 : e263 4 = .pointer (some ⟨g3, 0, none⟩) := (congrFun qe263 4).trans s4_e262
      have s5_e263 : e263 5 = .pointer (some ⟨g4, 0, none⟩) := (congrFun qe263 5).trans s5_e262
      have s6_e263 : e263 6 = .int .i64 y6 := (congrFun qe263 6).trans s6_e262
      have s7_e263 : e263 7 = .int .u64 x23 := (congrFun qe263 7).trans s7_e262
      have s19_e263 : e263 19 = .int .i64 y6 := (congrFun qe263 19).trans s19_e262
      obtain ⟨x24, qx24, h⟩ := lt_e h
      have s22_e263 : e263 22 = .int .i64 x24 := (congrFun qe263 22).trans (congrArg (Value.int .i64) qx24.symm)
      clear qe263
      exact ih (y7.set ((IntKind.i64.wrap (y6 + y9)) : Int).toNat x21) x23 x24 _ _ (List.length_set.trans ly7) s2_e263 s3_e263 s4_e263 s5_e263 s6_e263 s7_e263 s19_e263 s22_e263 (hp.drop (L' := [⟨g1, 0, ints .u64 a0⟩, ⟨g2, 0, ints .u64 a1⟩, ⟨g3, 0, ints .u64 (List.replicate 4 (0 : Int))⟩, ⟨g4, 0, ints .u64 (y7.set ((IntKind.i64.wrap (y6 + y9)) : Int).toNat x21)⟩]) (List.Sublist.refl _)) h
    · replace h := br_f hb h
      refine wexit rfl ?_
      exact hQ0 _ _ y8 y7 ly7 s2_e253 s3_e253 s4_e253 s5_e253 s6_e253 s7_e253 s19_e253 (hp.drop (L' := [⟨g1, 0, ints .u64 a0⟩, ⟨g2, 0, ints .u64 a1⟩, ⟨g3, 0, ints .u64 (List.replicate 4 (0 : Int))⟩, ⟨g4, 0, ints .u64 y7⟩]) (List.Sublist.refl _)) (Option.some.inj h).symm
theorem postilionref04_Times.p1_ok {w0 : World} {Ws : List Wr} {Q : Exit → Env → World → Prop} (g1 g2 g3 g4 : Nat) (a0 : List Int) (a1 : List Int) (l_a0 : a0.length = 4) (l_a1 : a1.length = 4) {r : List Int} (hQ0 : ∀ (e' : Env) (w' : World) (z0 : List Int), z0.length = 8 → e' 4 = .pointer (some ⟨g3, 0, none⟩) → e' 5 = .pointer (some ⟨g4, 0, none⟩) → Hp w0 Ws w' [⟨g1, 0, ints .u64 a0⟩, ⟨g2, 0, ints .u64 a1⟩, ⟨g3, 0, ints .u64 (List.replicate 4 (0 : Int))⟩, ⟨g4, 0, ints .u64 z0⟩] [] → r = (z0) → Q (.exit 0) e' w') : ∀ (k : Nat), ∀ (y5 : List Int) (y6 : Int) (e : Env) (w : World) (ly5 : y5.length = 8) (s2_e : e 2 = .pointer (some ⟨g1, 0, none⟩)) (s3_e : e 3 = .pointer (some ⟨g2, 0, none⟩)) (s4_e : e 4 = .pointer (some ⟨g3, 0, none⟩)) (s5_e : e 5 = .pointer (some ⟨g4, 0, none⟩)) (s19_e : e 19 = .int .i64 y6) (hp : Hp w0 Ws w [⟨g1, 0, ints .u64 a0⟩, ⟨g2, 0, ints .u64 a1⟩, ⟨g3, 0, ints .u64 (List.replicate 4 (0 : Int))⟩, ⟨g4, 0, ints .u64 y5⟩] []) (h : postilionref04_Times.p1 k a0 a1 y5 y6 = some r), Lp Try.prog Try.f37.ntmps (at_ (fbody Try.f37) [1, 1, 0, 1, 0, 0]) Q k e w := by
  intro k
  induction k with
  | zero => intro y5 y6 e w ly5 s2_e s3_e s4_e s5_e s19_e hp h; cases h
  | succ k ih =>
    intro y5 y6 e w ly5 s2_e s3_e s4_e s5_e s19_e hp h
    unfold postilionref04_Times.p1 at h
    show Wp _ _ _ _ _ _
    refine wseq rfl ?_
    refine wregion (.tp 0 (.done)) [] rfl (by kernel_rfl) (by kernel_rfl) ?_
    refine k_bin (X := .int .i64 y6) (Y := .int .i64 4) rfl s19_e rfl rfl ?_
    refine k_end ?_; intro e249 qe249
    have s2_e249 : e249 2 = .pointer (some ⟨g1, 0, none⟩) := (congrFun qe249 2).trans s2_e
    have s3_e249 : e249 3 = .pointer (some ⟨g2, 0, none⟩) := (congrFun qe249 3).trans s3_e
    have s4_e249 : e249 4 = .pointer (some ⟨g3, 0, none⟩) := (congrFun qe249 4).trans s4_e
    have s5_e249 : e249 5 = .pointer (some ⟨g4, 0, none⟩) := (congrFun qe249 5).trans s5_e
    have s19_e249 : e249 19 = .int .i64 y6 := (congrFun qe249 19).trans s19_e
    have s20_e249 : e249 20 = .bool (decide (y6 < 4)) := congrFun qe249 20
    clear qe249
    refine wseq rfl ?_
    refine wcond (t := (decide (y6 < 4))) rfl (by decide) s20_e249 (fun hb => ?_) (fun hb => ?_)
    · replace h := br_t hb h
      refine wskip rfl ?_
      refine wseq rfl ?_
      refine wblock rfl ?_
      refine wseq rfl ?_
      refine wregion (.tp 0 (.tp 1 (.done))) [] rfl (by kernel_rfl) (by kernel_rfl) ?_
      refine k_move (v := .int .i64 y6) rfl s19_e249 ?_
      refine k_assign (v := .int .i64 y6) rfl rfl ?_
      refine k_end ?_; intro e250 qe250
      have s2_e250 : e250 2 = .pointer (some ⟨g1, 0, none⟩) := (congrFun qe250 2).trans s2_e249
      have s3_e250 : e250 3 = .pointer (some ⟨g2, 0, none⟩) := (congrFun qe250 3).trans s3_e249
      have s4_e250 : e250 4 = .pointer (some ⟨g3, 0, none⟩) := (congrFun qe250 4).trans s4_e249
      have s5_e250 : e250 5 = .pointer (some ⟨g4, 0, none⟩) := (congrFun qe250 5).trans s5_e249
      have s6_e250 : e250 6 = .int .i64 y6 := congrFun qe250 6
      have s19_e250 : e250 19 = .int .i64 y6 := (congrFun qe250 19).trans s19_e249
      clear qe250
      refine wseq rfl ?_
      refine wregion (.tp 0 (.done)) [] rfl (by kernel_rfl) (by kernel_rfl) ?_
      refine k_assign (v := .int .u64 0) rfl rfl ?_
      refine k_end ?_; intro e251 qe251
      have s2_e251 : e251 2 = .pointer (some ⟨g1, 0, none⟩) := (congrFun qe251 2).trans s2_e250
      have s3_e251 : e251 3 = .pointer (some ⟨g2, 0, none⟩) := (congrFun qe251 3).trans s3_e250
      have s4_e251 : e251 4 = .pointer (some ⟨g3, 0, none⟩) := (congrFun qe251 4).trans s4_e250
      have s5_e251 : e251 5 = .pointer (some ⟨g4, 0, none⟩) := (congrFun qe251 5).trans s5_e250
      have s6_e251 : e251 6 = .int .i64 y6 := (congrFun qe251 6).trans s6_e250
      have s7_e251 : e251 7 = .int .u64 0 := congrFun qe251 7
      have s19_e251 : e251 19 = .int .i64 y6 := (congrFun qe251 19).trans s19_e250
      clear qe251
      refine wseq rfl ?_
      refine wseq rfl ?_
      refine wregion (.tp 0 (.done)) [] rfl (by kernel_rfl) (by kernel_rfl) ?_
      refine k_move (v := .int .i64 0) rfl rfl ?_
      refine k_end ?_; intro e252 qe252
      have s2_e252 : e252 2 = .pointer (some ⟨g1, 0, none⟩) := (congrFun qe252 2).trans s2_e251
      have s3_e252 : e252 3 = .pointer (some ⟨g2, 0, none⟩) := (congrFun qe252 3).trans s3_e251
      have s4_e252 : e252 4 = .pointer (some ⟨g3, 0, none⟩) := (congrFun qe252 4).trans s4_e251
      have s5_e252 : e252 5 = .pointer (some ⟨g4, 0, none⟩) := (congrFun qe252 5).trans s5_e251
      have s6_e252 : e252 6 = .int .i64 y6 := (congrFun qe252 6).trans s6_e251
      have s7_e252 : e252 7 = .int .u64 0 := (congrFun qe252 7).trans s7_e251
      have s19_e252 : e252 19 = .int .i64 y6 := (congrFun qe252 19).trans s19_e251
      have s22_e252 : e252 22 = .int .i64 0 := congrFun qe252 22
      clear qe252
      refine wblock rfl ?_
      obtain ⟨r25, qr25, h⟩ := bd_e h
      refine wloop k rfl (postilionref04_Times.p2_ok g1 g2 g3 g4 y6 a0 a1 l_a0 l_a1 ?hq0 k y5 0 0 e252 _ ly5 s2_e252 s3_e252 s4_e252 s5_e252 s6_e252 s7_e252 s19_e252 s22_e252 hp qr25)
      case hq0 =>
        intro e264 w m26 m27 lm27 s2_e264 s3_e264 s4_e264 s5_e264 s6_e264 s7_e264 s19_e264 hp qq
        rw [qq] at h; clear qq
        refine wregion (.tp 0 (.tp 1 (.tp 2 (.tp 3 (.ef 4 (.done)))))) [4] rfl (by kernel_rfl) (by kernel_rfl) ?_
        refine k_move (v := .int .i64 y6) rfl s6_e264 ?_
        refine k_bin (X := .int .i64 y6) (Y := .int .i64 4) rfl rfl rfl rfl ?_
        refine k_move (v := .int .u64 m26) rfl s7_e264 ?_
        obtain ⟨c28, h⟩ := chk_e h
        refine k_indexA (n := 8) (s := 1) (j := (IntKind.i64.wrap (y6 + 4))) rfl Try.underlying67 (by kernel_rfl) s5_e264 rfl c28 ?_
        refine k_store (v := .int .u64 m26) 3 ((IntKind.i64.wrap (y6 + 4)) : Int).toNat (r := ⟨g4, 0, ints .u64 m27⟩) rfl (by kernel_rfl) rfl rfl rfl hp rfl rfl (show 0 + ((IntKind.i64.wrap (y6 + 4)) : Int).toNat * 1 = 0 + ((IntKind.i64.wrap (y6 + 4)) : Int).toNat by omega) (Nat.lt_of_lt_of_eq (idx_lt c28 lm27) (ints_length _ _).symm) (by decide) ?_; intro w hp; rw [ints_set] at hp
        refine k_end ?_; intro e265 qe265
        have s2_e265 : e265 2 = .pointer (some ⟨g1, 0, none⟩) := (congrFun qe265 2).trans s2_e264
        have s3_e265 : e265 3 = .pointer (some ⟨g2, 0, none⟩) := (congrFun qe265 3).trans s3_e264
        have s4_e265 : e265 4 = .pointer (some ⟨g3, 0, none⟩) := (congrFun qe265 4).trans s4_e264
        have s5_e265 : e265 5 = .pointer (some ⟨g4, 0, none⟩) := (congrFun qe265 5).trans s5_e264
        have s19_e265 : e265 19 = .int .i64 y6 := (congrFun qe265 19).trans s19_e264
        clear qe265
        refine wregion (.tp 0 (.tp 1 (.done))) [] rfl (by kernel_rfl) (by kernel_rfl) ?_
        refine k_bin (X := .int .i64 y6) (Y := .int .i64 1) rfl s19_e265 rfl rfl ?_
        refine k_move (v := .int .i64 (IntKind.i64.wrap (y6 + 1))) rfl rfl ?_
        refine k_end ?_; intro e266 qe266
        have s2_e266 : e266 2 = .pointer (some ⟨g1, 0, none⟩) := (congrFun qe266 2).trans s2_e265
        have s3_e266 : e266 3 = .pointer (some ⟨g2, 0, none⟩) := (congrFun qe266 3).trans s3_e265
        have s4_e266 : e266 4 = .pointer (some ⟨g3, 0, none⟩) := (congrFun qe266 4).trans s4_e265
        have s5_e266 : e266 5 = .pointer (some ⟨g4, 0, none⟩) := (congrFun qe266 5).trans s5_e265
        obtain ⟨x29, qx29, h⟩ := lt_e h
        have s19_e266 : e266 19 = .int .i64 x29 := (congrFun qe266 19).trans (congrArg (Value.int .i64) qx29.symm)
        clear qe266
        exact ih (m27.set ((IntKind.i64.wrap (y6 + 4)) : Int).toNat m26) x29 _ _ (List.length_set.trans lm27) s2_e266 s3_e266 s4_e266 s5_e266 s19_e266 (hp.drop (L' := [⟨g1, 0, ints .u64 a0⟩, ⟨g2, 0, ints .u64 a1⟩, ⟨g3, 0, ints .u64 (List.replicate 4 (0 : Int))⟩, ⟨g4, 0, ints .u64 (m27.set ((IntKind.i64.wrap (y6 + 4)) : Int).toNat m26)⟩]) (List.Sublist.refl _)) h
    · replace h := br_f hb h
      refine wexit rfl ?_
      exact hQ0 _ _ y5 ly5 s4_e249 s5_e249 (hp.drop (L' := [⟨g1, 0, ints .u64 a0⟩, ⟨g2, 0, ints .u64 a1⟩, ⟨g3, 0, ints .u64 (List.replicate 4 (0 : Int))⟩, ⟨g4, 0, ints .u64 y5⟩]) (List.Sublist.refl _)) (Option.some.inj h).symm
theorem postilionref04_Times.p3_ok {w0 : World} {Ws : List Wr} {Q : Exit → Env → World → Prop} (g1 g2 g3 g32 g4 : Nat) (a0 : List Int) (a1 : List Int) (m31 : List Int) (l_a0 : a0.length = 4) (l_a1 : a1.length = 4) (l_m31 : m31.length = 8) {r : Int × Int × List Int} (hQ0 : ∀ (e' : Env) (w' : World) (z0 : Int) (z1 : Int) (z2 : List Int), z2.length = 4 → e' 4 = .pointer (some ⟨g3, 0, none⟩) → e' 12 = .pointer (some ⟨g32, 0, none⟩) → e' 13 = .int .u64 z0 → e' 14 = .int .u64 z1 → Hp w0 Ws w' [⟨g1, 0, ints .u64 a0⟩, ⟨g2, 0, ints .u64 a1⟩, ⟨g3, 0, ints .u64 (List.replicate 4 (0 : Int))⟩, ⟨g4, 0, ints .u64 m31⟩, ⟨g32, 0, ints .u64 z2⟩] [] → r = (z0, z1, z2) → Q (.exit 4) e' w') : ∀ (k : Nat), ∀ (y33 : List Int) (y34 : Int) (y35 : Int) (y36 : Int) (e : Env) (w : World) (ly33 : y33.length = 4) (s4_e : e 4 = .pointer (some ⟨g3, 0, none⟩)) (s5_e : e 5 = .pointer (some ⟨g4, 0, none⟩)) (s12_e : e 12 = .pointer (some ⟨g32, 0, none⟩)) (s13_e : e 13 = .int .u64 y34) (s14_e : e 14 = .int .u64 y35) (s78_e : e 78 = .int .i64 y36) (hp : Hp w0 Ws w [⟨g1, 0, ints .u64 a0⟩, ⟨g2, 0, ints .u64 a1⟩, ⟨g3, 0, ints .u64 (List.replicate 4 (0 : Int))⟩, ⟨g4, 0, ints .u64 m31⟩, ⟨g32, 0, ints .u64 y33⟩] []) (h : postilionref04_Times.p3 k m31 y33 y34 y35 y36 = some r), Lp Try.prog Try.f37.ntmps (at_ (fbody Try.f37) [1, 1, 1, 1, 1, 1, 0, 1, 0, 0]) Q k e w := by
  intro k
  induction k with
  | zero => intro y33 y34 y35 y36 e w ly33 s4_e s5_e s12_e s13_e s14_e s78_e hp h; cases h
  | succ k ih =>
    intro y33 y34 y35 y36 e w ly33 s4_e s5_e s12_e s13_e s14_e s78_e hp h
    unfold postilionref04_Times.p3 at h
    show Wp _ _ _ _ _ _
    refine wseq rfl ?_
    refine wregion (.tp 0 (.done)) [] rfl (by kernel_rfl) (by kernel_rfl) ?_
    refine k_bin (X := .int .i64 y36) (Y := .int .i64 4) rfl s78_e rfl rfl ?_
    refine k_end ?_; intro e272 qe272
    have s4_e272 : e272 4 = .pointer (some ⟨g3, 0, none⟩) := (congrFun qe272 4).trans s4_e
    have s5_e272 : e272 5 = .pointer (some ⟨g4, 0, none⟩) := (congrFun qe272 5).trans s5_e
    have s12_e272 : e272 12 = .pointer (some ⟨g32, 0, none⟩) := (congrFun qe272 12).trans s12_e
    have s13_e272 : e272 13 = .int .u64 y34 := (congrFun qe272 13).trans s13_e
    have s14_e272 : e272 14 = .int .u64 y35 := (congrFun qe272 14).trans s14_e
    have s78_e272 : e272 78 = .int .i64 y36 := (congrFun qe272 78).trans s78_e
    have s79_e272 : e272 79 = .bool (decide (y36 < 4)) := congrFun qe272 79
    clear qe272
    refine wseq rfl ?_
    refine wcond (t := (decide (y36 < 4))) rfl (by decide) s79_e272 (fun hb => ?_) (fun hb => ?_)
    · replace h := br_t hb h
      refine wskip rfl ?_
      refine wseq rfl ?_
      refine wblock rfl ?_
      refine wseq rfl ?_
      refine wregion (.tp 0 (.tp 1 (.done))) [] rfl (by kernel_rfl) (by kernel_rfl) ?_
      refine k_move (v := .int .i64 y36) rfl s78_e272 ?_
      refine k_assign (v := .int .i64 y36) rfl rfl ?_
      refine k_end ?_; intro e273 qe273
      have s4_e273 : e273 4 = .pointer (some ⟨g3, 0, none⟩) := (congrFun qe273 4).trans s4_e272
      have s5_e273 : e273 5 = .pointer (some ⟨g4, 0, none⟩) := (congrFun qe273 5).trans s5_e272
      have s12_e273 : e273 12 = .pointer (some ⟨g32, 0, none⟩) := (congrFun qe273 12).trans s12_e272
      have s13_e273 : e273 13 = .int .u64 y34 := (congrFun qe273 13).trans s13_e272
      have s14_e273 : e273 14 = .int .u64 y35 := (congrFun qe273 14).trans s14_e272
      have s15_e273 : e273 15 = .int .i64 y36 := congrFun qe273 15
      have s78_e273 : e273 78 = .int .i64 y36 := (congrFun qe273 78).trans s78_e272
      clear qe273
      refine wseq rfl ?_
      refine wregion (.tp 0 (.tp 1 (.tp 2 (.tk 3 (.ef 4 (.tp 5 (.tp 6 (.tp 7 (.tp 8 (.tp 9 (.done))))))))))) [] rfl (by kernel_rfl) (by kernel_rfl) ?_
      refine k_move (v := .int .i64 y36) rfl s15_e273 ?_
      refine k_bin (X := .int .i64 y36) (Y := .int .i64 4) rfl rfl rfl rfl ?_
      obtain ⟨c37, h⟩ := chk_e h
      refine k_indexA (n := 8) (s := 1) (j := (IntKind.i64.wrap (y36 + 4))) rfl Try.underlying67 (by kernel_rfl) s5_e273 rfl c37 ?_
      refine k_load (j := ((IntKind.i64.wrap (y36 + 4)) : Int).toNat) (v := .int .u64 (m31.getD ((IntKind.i64.wrap (y36 + 4)) : Int).toNat 0)) rfl (by kernel_rfl) rfl (hp.get (j := 3) rfl) rfl (show 0 + ((IntKind.i64.wrap (y36 + 4)) : Int).toNat * 1 = 0 + ((IntKind.i64.wrap (y36 + 4)) : Int).toNat by omega) (ints_get (idx_lt c37 l_m31)) ?_
      obtain ⟨r38, qr38, h⟩ := bd_e h
      refine k_call [.int .u64 (m31.getD ((IntKind.i64.wrap (y36 + 4)) : Int).toNat 0), .int .u64 38] rfl (by kernel_rfl) (args2 rfl rfl) (math_bits_Mul64_ok (m31.getD ((IntKind.i64.wrap (y36 + 4)) : Int).toNat 0) 38  _ (hp.toR (fun _ h => by cases h)) qr38) ?_
      rintro _ w' ⟨_, rfl, rfl, hpc⟩
      refine ⟨_, rfl, .inr (.of_below hpc.chg.to_below), ?_⟩; have hp := hp.below hpc.chg.to_below; clear hpc
      refine k_move (v := .tuple #[.int .u64 r38.1, .int .u64 r38.2]) rfl rfl ?_
      refine k_extract (v := .int .u64 r38.1) rfl rfl rfl ?_
      refine k_extract (v := .int .u64 r38.2) rfl rfl rfl ?_
      refine k_assign (v := .int .u64 r38.1) rfl rfl ?_
      refine k_assign (v := .int .u64 r38.2) rfl rfl ?_
      refine k_end ?_; intro e274 qe274
      have s4_e274 : e274 4 = .pointer (some ⟨g3, 0, none⟩) := (congrFun qe274 4).trans s4_e273
      have s5_e274 : e274 5 = .pointer (some ⟨g4, 0, none⟩) := (congrFun qe274 5).trans s5_e273
      have s12_e274 : e274 12 = .pointer (some ⟨g32, 0, none⟩) := (congrFun qe274 12).trans s12_e273
      have s13_e274 : e274 13 = .int .u64 y34 := (congrFun qe274 13).trans s13_e273
      have s14_e274 : e274 14 = .int .u64 y35 := (congrFun qe274 14).trans s14_e273
      have s15_e274 : e274 15 = .int .i64 y36 := (congrFun qe274 15).trans s15_e273
      obtain ⟨x39, qx39, h⟩ := lt_e h
      have s16_e274 : e274 16 = .int .u64 x39 := (congrFun qe274 16).trans (congrArg (Value.int .u64) qx39.symm)
      obtain ⟨x40, qx40, h⟩ := lt_e h
      have s17_e274 : e274 17 = .int .u64 x40 := (congrFun qe274 17).trans (congrArg (Value.int .u64) qx40.symm)
      have s78_e274 : e274 78 = .int .i64 y36 := (congrFun qe274 78).trans s78_e273
      clear qe274
      refine wseq rfl ?_
      refine wregion (.tp 0 (.done)) [] rfl (by kernel_rfl) (by kernel_rfl) ?_
      refine k_assign (v := .int .u64 0) rfl rfl ?_
      refine k_end ?_; intro e275 qe275
      have s4_e275 : e275 4 = .pointer (some ⟨g3, 0, none⟩) := (congrFun qe275 4).trans s4_e274
      have s5_e275 : e275 5 = .pointer (some ⟨g4, 0, none⟩) := (congrFun qe275 5).trans s5_e274
      have s12_e275 : e275 12 = .pointer (some ⟨g32, 0, none⟩) := (congrFun qe275 12).trans s12_e274
      have s13_e275 : e275 13 = .int .u64 y34 := (congrFun qe275 13).trans s13_e274
      have s14_e275 : e275 14 = .int .u64 y35 := (congrFun qe275 14).trans s14_e274
      have s15_e275 : e275 15 = .int .i64 y36 := (congrFun qe275 15).trans s15_e274
      have s16_e275 : e275 16 = .int .u64 x39 := (congrFun qe275 16).trans s16_e274
      have s17_e275 : e275 17 = .int .u64 x40 := (congrFun qe275 17).trans s17_e274
      have s78_e275 : e275 78 = .int .i64 y36 := (congrFun qe275 78).trans s78_e274
      clear qe275
      refine wseq rfl ?_
      refine wregion (.tp 0 (.tp 1 (.tp 2 (.tp 3 (.tp 4 (.tp 5 (.tp 6 (.tp 7 (.done))))))))) [] rfl (by kernel_rfl) (by kernel_rfl) ?_
      refine k_move (v := .int .u64 x40) rfl s17_e275 ?_
      refine k_move (v := .int .u64 y34) rfl s13_e275 ?_
      obtain ⟨c41, h⟩ := chk_e h
      refine k_ext [.int .u64 x40, .int .u64 y34, .int .u64 0] rfl ext54 (args3 rfl rfl rfl) (fun w' => run_add64 x40 y34 0 c41.1 c41.2.1 c41.2.2.1 c41.2.2.2 w') ?_
      refine k_move (v := .tuple #[.int .u64 ((x40 + y34 + 0) % 18446744073709551616), .int .u64 ((x40 + y34 + 0) / 18446744073709551616)]) rfl rfl ?_
      refine k_extract (v := .int .u64 ((x40 + y34 + 0) % 18446744073709551616)) rfl rfl rfl ?_
      refine k_extract (v := .int .u64 ((x40 + y34 + 0) / 18446744073709551616)) rfl rfl rfl ?_
      refine k_assign (v := .int .u64 ((x40 + y34 + 0) % 18446744073709551616)) rfl rfl ?_
      refine k_assign (v := .int .u64 ((x40 + y34 + 0) / 18446744073709551616)) rfl rfl ?_
      refine k_end ?_; intro e276 qe276
      have s4_e276 : e276 4 = .pointer (some ⟨g3, 0, none⟩) := (congrFun qe276 4).trans s4_e275
      have s5_e276 : e276 5 = .pointer (some ⟨g4, 0, none⟩) := (congrFun qe276 5).trans s5_e275
      have s12_e276 : e276 12 = .pointer (some ⟨g32, 0, none⟩) := (congrFun qe276 12).trans s12_e275
      have s14_e276 : e276 14 = .int .u64 y35 := (congrFun qe276 14).trans s14_e275
      have s15_e276 : e276 15 = .int .i64 y36 := (congrFun qe276 15).trans s15_e275
      have s16_e276 : e276 16 = .int .u64 x39 := (congrFun qe276 16).trans s16_e275
      obtain ⟨x42, qx42, h⟩ := lt_e h
      have s17_e276 : e276 17 = .int .u64 x42 := (congrFun qe276 17).trans (congrArg (Value.int .u64) qx42.symm)
      obtain ⟨x43, qx43, h⟩ := lt_e h
      have s18_e276 : e276 18 = .int .u64 x43 := (congrFun qe276 18).trans (congrArg (Value.int .u64) qx43.symm)
      have s78_e276 : e276 78 = .int .i64 y36 := (congrFun qe276 78).trans s78_e275
      clear qe276
      refine wseq rfl ?_
      refine wregion (.tp 0 (.tp 1 (.tp 2 (.tp 3 (.done))))) [] rfl (by kernel_rfl) (by kernel_rfl) ?_
      refine k_move (v := .int .u64 x39) rfl s16_e276 ?_
      refine k_move (v := .int .u64 x43) rfl s18_e276 ?_
      refine k_bin (X := .int .u64 x39) (Y := .int .u64 x43) rfl rfl rfl rfl ?_
      refine k_assign (v := .int .u64 (IntKind.u64.wrap (x39 + x43))) rfl rfl ?_
      refine k_end ?_; intro e277 qe277
      have s4_e277 : e277 4 = .pointer (some ⟨g3, 0, none⟩) := (congrFun qe277 4).trans s4_e276
      have s5_e277 : e277 5 = .pointer (some ⟨g4, 0, none⟩) := (congrFun qe277 5).trans s5_e276
      have s12_e277 : e277 12 = .pointer (some ⟨g32, 0, none⟩) := (congrFun qe277 12).trans s12_e276
      obtain ⟨x44, qx44, h⟩ := lt_e h
      have s13_e277 : e277 13 = .int .u64 x44 := (congrFun qe277 13).trans (congrArg (Value.int .u64) qx44.symm)
      have s14_e277 : e277 14 = .int .u64 y35 := (congrFun qe277 14).trans s14_e276
      have s15_e277 : e277 15 = .int .i64 y36 := (congrFun qe277 15).trans s15_e276
      have s17_e277 : e277 17 = .int .u64 x42 := (congrFun qe277 17).trans s17_e276
      have s78_e277 : e277 78 = .int .i64 y36 := (congrFun qe277 78).trans s78_e276
      clear qe277
      refine wregion (.tp 0 (.tp 1 (.tp 2 (.tk 3 (.tp 4 (.tp 5 (.tp 6 (.tp 7 (.tp 8 (.tp 9 (.tp 10 (.ef 11 (.tp 12 (.done)))))))))))))) [11] rfl (by kernel_rfl) (by kernel_rfl) ?_
      refine k_move (v := .int .i64 y36) rfl s15_e277 ?_
      refine k_move (v := .int .i64 y36) rfl s15_e277 ?_
      obtain ⟨c45, h⟩ := chk_e h
      refine k_indexA (n := 4) (s := 1) (j := y36) rfl Try.underlying42 (by kernel_rfl) s12_e277 rfl c45 ?_
      refine k_load (j := (y36 : Int).toNat) (v := .int .u64 (y33.getD (y36 : Int).toNat 0)) rfl (by kernel_rfl) rfl (hp.get (j := 4) rfl) rfl (show 0 + (y36 : Int).toNat * 1 = 0 + (y36 : Int).toNat by omega) (ints_get (idx_lt c45 ly33)) ?_
      refine k_move (v := .int .u64 x42) rfl s17_e277 ?_
      refine k_move (v := .int .u64 y35) rfl s14_e277 ?_
      obtain ⟨c46, h⟩ := chk_e h
      refine k_ext [.int .u64 (y33.getD (y36 : Int).toNat 0), .int .u64 x42, .int .u64 y35] rfl ext54 (args3 rfl rfl rfl) (fun w' => run_add64 (y33.getD (y36 : Int).toNat 0) x42 y35 c46.1 c46.2.1 c46.2.2.1 c46.2.2.2 w') ?_
      refine k_move (v := .tuple #[.int .u64 (((y33.getD (y36 : Int).toNat 0) + x42 + y35) % 18446744073709551616), .int .u64 (((y33.getD (y36 : Int).toNat 0) + x42 + y35) / 18446744073709551616)]) rfl rfl ?_
      refine k_extract (v := .int .u64 (((y33.getD (y36 : Int).toNat 0) + x42 + y35) % 18446744073709551616)) rfl rfl rfl ?_
      refine k_extract (v := .int .u64 (((y33.getD (y36 : Int).toNat 0) + x42 + y35) / 18446744073709551616)) rfl rfl rfl ?_
      refine k_indexA (n := 4) (s := 1) (j := y36) rfl Try.underlying42 (by kernel_rfl) s12_e277 rfl c45 ?_
      refine k_store (v := .int .u64 (((y33.getD (y36 : Int).toNat 0) + x42 + y35) % 18446744073709551616)) 4 (y36 : Int).toNat (r := ⟨g32, 0, ints .u64 y33⟩) rfl (by kernel_rfl) rfl rfl rfl hp rfl rfl (show 0 + (y36 : Int).toNat * 1 = 0 + (y36 : Int).toNat by omega) (Nat.lt_of_lt_of_eq (idx_lt c45 ly33) (ints_length _ _).symm) (by decide) ?_; intro w hp; rw [ints_set] at hp
      refine k_assign (v := .int .u64 (((y33.getD (y36 : Int).toNat 0) + x42 + y35) / 18446744073709551616)) rfl rfl ?_
      refine k_end ?_; intro e278 qe278
      have s4_e278 : e278 4 = .pointer (some ⟨g3, 0, none⟩) := (congrFun qe278 4).trans s4_e277
      have s5_e278 : e278 5 = .pointer (some ⟨g4, 0, none⟩) := (congrFun qe278 5).trans s5_e277
      have s12_e278 : e278 12 = .pointer (some ⟨g32, 0, none⟩) := (congrFun qe278 12).trans s12_e277
      have s13_e278 : e278 13 = .int .u64 x44 := (congrFun qe278 13).trans s13_e277
      obtain ⟨x47, qx47, h⟩ := lt_e h
      have s14_e278 : e278 14 = .int .u64 x47 := (congrFun qe278 14).trans (congrArg (Value.int .u64) qx47.symm)
      have s78_e278 : e278 78 = .int .i64 y36 := (congrFun qe278 78).trans s78_e277
      clear qe278
      refine wregion (.tp 0 (.tp 1 (.done))) [] rfl (by kernel_rfl) (by kernel_rfl) ?_
      refine k_bin (X := .int .i64 y36) (Y := .int .i64 1) rfl s78_e278 rfl rfl ?_
      refine k_move (v := .int .i64 (IntKind.i64.wrap (y36 + 1))) rfl rfl ?_
      refine k_end ?_; intro e279 qe279
      have s4_e279 : e279 4 = .pointer (some ⟨g3, 0, none⟩) := (congrFun qe279 4).trans s4_e278
      have s5_e279 : e279 5 = .pointer (some ⟨g4, 0, none⟩) := (congrFun qe279 5).trans s5_e278
      have s12_e279 : e279 12 = .pointer (some ⟨g32, 0, none⟩) := (congrFun qe279 12).trans s12_e278
      have s13_e279 : e279 13 = .int .u64 x44 := (congrFun qe279 13).trans s13_e278
      have s14_e279 : e279 14 = .int .u64 x47 := (congrFun qe279 14).trans s14_e278
      obtain ⟨x48, qx48, h⟩ := lt_e h
      have s78_e279 : e279 78 = .int .i64 x48 := (congrFun qe279 78).trans (congrArg (Value.int .i64) qx48.symm)
      clear qe279
      exact ih (y33.set (y36 : Int).toNat (((y33.getD (y36 : Int).toNat 0) + x42 + y35) % 18446744073709551616)) x44 x47 x48 _ _ (List.length_set.trans ly33) s4_e279 s5_e279 s12_e279 s13_e279 s14_e279 s78_e279 (hp.drop (L' := [⟨g1, 0, ints .u64 a0⟩, ⟨g2, 0, ints .u64 a1⟩, ⟨g3, 0, ints .u64 (List.replicate 4 (0 : Int))⟩, ⟨g4, 0, ints .u64 m31⟩, ⟨g32, 0, ints .u64 (y33.set (y36 : Int).toNat (((y33.getD (y36 : Int).toNat 0) + x42 + y35) % 18446744073709551616))⟩]) (List.Sublist.refl _)) h
    · replace h := br_f hb h
      refine wexit rfl ?_
      exact hQ0 _ _ y34 y35 y33 ly33 s4_e272 s12_e272 s13_e272 s14_e272 (hp.drop (L' := [⟨g1, 0, ints .u64 a0⟩, ⟨g2, 0, ints .u64 a1⟩, ⟨g3, 0, ints .u64 (List.replicate 4 (0 : Int))⟩, ⟨g4, 0, ints .u64 m31⟩, ⟨g32, 0, ints .u64 y33⟩]) (List.Sublist.refl _)) (Option.some.inj h).symm
theorem postilionref04_Times_ok (k : Nat) (a0 : List Int) (a1 : List Int) (la0 : a0.length = 4) (la1 : a1.length = 4) (w0 : World) (hp : Hp w0 [] w0 [] []) {r : List Int} (h : postilionref04_Times.f k a0 a1 = some r) :
    Calls Try.prog 37 [.agg (ints .u64 a0).toArray, .agg (ints .u64 a1).toArray].toArray w0 fun x w' => ∃ v, x = .returned v ∧ v = .agg (ints .u64 r).toArray ∧ r.length = 4 ∧ Hp w0 [] w' [] [] := by
  refine calls_in Try.func37 rfl (Nat.le_of_ble_eq_true (by kernel_rfl)) (by kernel_rfl) ?_
  intro e0 qe0
  have s0_e0 : e0 0 = .agg (ints .u64 a0).toArray := congrFun qe0 0
  have s1_e0 : e0 1 = .agg (ints .u64 a1).toArray := congrFun qe0 1
  clear qe0
  unfold postilionref04_Times.f at h
  refine wseq rfl ?_
  refine wregion (.ef 0 (.ef 1 (.ef 2 (.done)))) [] rfl (by kernel_rfl) (by kernel_rfl) ?_
  refine k_box (v := .agg (ints .u64 a0).toArray) (ints .u64 a0) rfl s0_e0 rfl hp ?_
  intro g1 w hbg1 hp
  refine k_box (v := .agg (ints .u64 a1).toArray) (ints .u64 a1) rfl s1_e0 rfl hp ?_
  intro g2 w hbg2 hp
  refine k_alloc (ints .u64 (List.replicate 4 (0 : Int))) rfl (by kernel_rfl) hp ?_
  intro g3 w hbg3 hp
  refine k_end ?_; intro e246 qe246
  have s2_e246 : e246 2 = .pointer (some ⟨g1, 0, none⟩) := congrFun qe246 2
  have s3_e246 : e246 3 = .pointer (some ⟨g2, 0, none⟩) := congrFun qe246 3
  have s4_e246 : e246 4 = .pointer (some ⟨g3, 0, none⟩) := congrFun qe246 4
  clear qe246
  refine wseq rfl ?_
  refine wregion (.ef 0 (.done)) [] rfl (by kernel_rfl) (by kernel_rfl) ?_
  refine k_alloc (ints .u64 (List.replicate 8 (0 : Int))) rfl (by kernel_rfl) hp ?_
  intro g4 w hbg4 hp
  refine k_end ?_; intro e247 qe247
  have s2_e247 : e247 2 = .pointer (some ⟨g1, 0, none⟩) := (congrFun qe247 2).trans s2_e246
  have s3_e247 : e247 3 = .pointer (some ⟨g2, 0, none⟩) := (congrFun qe247 3).trans s3_e246
  have s4_e247 : e247 4 = .pointer (some ⟨g3, 0, none⟩) := (congrFun qe247 4).trans s4_e246
  have s5_e247 : e247 5 = .pointer (some ⟨g4, 0, none⟩) := congrFun qe247 5
  clear qe247
  refine wseq rfl ?_
  refine wseq rfl ?_
  refine wregion (.tp 0 (.done)) [] rfl (by kernel_rfl) (by kernel_rfl) ?_
  refine k_move (v := .int .i64 0) rfl rfl ?_
  refine k_end ?_; intro e248 qe248
  have s2_e248 : e248 2 = .pointer (some ⟨g1, 0, none⟩) := (congrFun qe248 2).trans s2_e247
  have s3_e248 : e248 3 = .pointer (some ⟨g2, 0, none⟩) := (congrFun qe248 3).trans s3_e247
  have s4_e248 : e248 4 = .pointer (some ⟨g3, 0, none⟩) := (congrFun qe248 4).trans s4_e247
  have s5_e248 : e248 5 = .pointer (some ⟨g4, 0, none⟩) := (congrFun qe248 5).trans s5_e247
  have s19_e248 : e248 19 = .int .i64 0 := congrFun qe248 19
  clear qe248
  refine wblock rfl ?_
  obtain ⟨r30, qr30, h⟩ := bd_e h
  refine wloop k rfl (postilionref04_Times.p1_ok g1 g2 g3 g4 a0 a1 la0 la1 ?hq0 k (List.replicate 8 (0 : Int)) 0 e248 _ List.length_replicate s2_e248 s3_e248 s4_e248 s5_e248 s19_e248 hp qr30)
  case hq0 =>
    intro e267 w m31 lm31 s4_e267 s5_e267 hp qq
    rw [qq] at h; clear qq
    refine wseq rfl ?_
    refine wregion (.tp 0 (.tk 1 (.tp 2 (.tk 3 (.tp 4 (.tk 5 (.tp 6 (.tk 7 (.tp 8 (.ef 9 (.ef 10 (.done)))))))))))) [10] rfl (by kernel_rfl) (by kernel_rfl) ?_
    refine k_indexA (n := 8) (s := 1) (j := 0) rfl Try.underlying67 (by kernel_rfl) s5_e267 rfl (by decide) ?_
    refine k_load (j := 0) (v := .int .u64 (m31.getD 0 0)) rfl (by kernel_rfl) rfl (hp.get (j := 3) rfl) rfl rfl (ints_get (Nat.lt_of_lt_of_eq (m := 8) (by decide) (lm31).symm)) ?_
    refine k_indexA (n := 8) (s := 1) (j := 1) rfl Try.underlying67 (by kernel_rfl) s5_e267 rfl (by decide) ?_
    refine k_load (j := 1) (v := .int .u64 (m31.getD 1 0)) rfl (by kernel_rfl) rfl (hp.get (j := 3) rfl) rfl rfl (ints_get (Nat.lt_of_lt_of_eq (m := 8) (by decide) (lm31).symm)) ?_
    refine k_indexA (n := 8) (s := 1) (j := 2) rfl Try.underlying67 (by kernel_rfl) s5_e267 rfl (by decide) ?_
    refine k_load (j := 2) (v := .int .u64 (m31.getD 2 0)) rfl (by kernel_rfl) rfl (hp.get (j := 3) rfl) rfl rfl (ints_get (Nat.lt_of_lt_of_eq (m := 8) (by decide) (lm31).symm)) ?_
    refine k_indexA (n := 8) (s := 1) (j := 3) rfl Try.underlying67 (by kernel_rfl) s5_e267 rfl (by decide) ?_
    refine k_load (j := 3) (v := .int .u64 (m31.getD 3 0)) rfl (by kernel_rfl) rfl (hp.get (j := 3) rfl) rfl rfl (ints_get (Nat.lt_of_lt_of_eq (m := 8) (by decide) (lm31).symm)) ?_
    refine k_build (v := .agg (ints .u64 [(m31.getD 0 0), (m31.getD 1 0), (m31.getD 2 0), (m31.getD 3 0)]).toArray) rfl (fun _ => by kernel_rfl) ?_
    refine k_alloc (ints .u64 (List.replicate 4 (0 : Int))) rfl (by kernel_rfl) hp ?_
    intro g32 w hbg32 hp
    refine k_storeA (v := .agg (ints .u64 [(m31.getD 0 0), (m31.getD 1 0), (m31.getD 2 0), (m31.getD 3 0)]).toArray) 4 0 (r := ⟨g32, 0, ints .u64 (List.replicate 4 (0 : Int))⟩) (ints .u64 [(m31.getD 0 0), (m31.getD 1 0), (m31.getD 2 0), (m31.getD 3 0)]) (ints .u64 [(m31.getD 0 0), (m31.getD 1 0), (m31.getD 2 0), (m31.getD 3 0)]) rfl (n := 4) (by kernel_rfl) rfl rfl rfl ((ints_length _ _).trans (rfl : List.length ([(m31.getD 0 0), (m31.getD 1 0), (m31.getD 2 0), (m31.getD 3 0)] : List Int) = 4)) (ints_one _ _) hp rfl rfl rfl (Nat.le_of_eq ((Nat.zero_add _).trans ((ints_length _ _).trans List.length_replicate).symm)) (setMany_all _ _ (((ints_length _ _).trans (rfl : List.length ([(m31.getD 0 0), (m31.getD 1 0), (m31.getD 2 0), (m31.getD 3 0)] : List Int) = 4)).trans ((ints_length _ _).trans List.length_replicate).symm)) (by decide) ?_; intro w hp
    refine k_end ?_; intro e268 qe268
    have s4_e268 : e268 4 = .pointer (some ⟨g3, 0, none⟩) := (congrFun qe268 4).trans s4_e267
    have s5_e268 : e268 5 = .pointer (some ⟨g4, 0, none⟩) := (congrFun qe268 5).trans s5_e267
    have s12_e268 : e268 12 = .pointer (some ⟨g32, 0, none⟩) := congrFun qe268 12
    clear qe268
    refine wseq rfl ?_
    refine wregion (.tp 0 (.done)) [] rfl (by kernel_rfl) (by kernel_rfl) ?_
    refine k_assign (v := .int .u64 0) rfl rfl ?_
    refine k_end ?_; intro e269 qe269
    have s4_e269 : e269 4 = .pointer (some ⟨g3, 0, none⟩) := (congrFun qe269 4).trans s4_e268
    have s5_e269 : e269 5 = .pointer (some ⟨g4, 0, none⟩) := (congrFun qe269 5).trans s5_e268
    have s12_e269 : e269 12 = .pointer (some ⟨g32, 0, none⟩) := (congrFun qe269 12).trans s12_e268
    have s13_e269 : e269 13 = .int .u64 0 := congrFun qe269 13
    clear qe269
    refine wseq rfl ?_
    refine wregion (.tp 0 (.done)) [] rfl (by kernel_rfl) (by kernel_rfl) ?_
    refine k_assign (v := .int .u64 0) rfl rfl ?_
    refine k_end ?_; intro e270 qe270
    have s4_e270 : e270 4 = .pointer (some ⟨g3, 0, none⟩) := (congrFun qe270 4).trans s4_e269
    have s5_e270 : e270 5 = .pointer (some ⟨g4, 0, none⟩) := (congrFun qe270 5).trans s5_e269
    have s12_e270 : e270 12 = .pointer (some ⟨g32, 0, none⟩) := (congrFun qe270 12).trans s12_e269
    have s13_e270 : e270 13 = .int .u64 0 := (congrFun qe270 13).trans s13_e269
    have s14_e270 : e270 14 = .int .u64 0 := congrFun qe270 14
    clear qe270
    refine wseq rfl ?_
    refine wseq rfl ?_
    refine wregion (.tp 0 (.done)) [] rfl (by kernel_rfl) (by kernel_rfl) ?_
    refine k_move (v := .int .i64 0) rfl rfl ?_
    refine k_end ?_; intro e271 qe271
    have s4_e271 : e271 4 = .pointer (some ⟨g3, 0, none⟩) := (congrFun qe271 4).trans s4_e270
    have s5_e271 : e271 5 = .pointer (some ⟨g4, 0, none⟩) := (congrFun qe271 5).trans s5_e270
    have s12_e271 : e271 12 = .pointer (some ⟨g32, 0, none⟩) := (congrFun qe271 12).trans s12_e270
    have s13_e271 : e271 13 = .int .u64 0 := (congrFun qe271 13).trans s13_e270
    have s14_e271 : e271 14 = .int .u64 0 := (congrFun qe271 14).trans s14_e270
    have s78_e271 : e271 78 = .int .i64 0 := congrFun qe271 78
    clear qe271
    refine wblock rfl ?_
    obtain ⟨r49, qr49, h⟩ := bd_e h
    refine wloop k rfl (postilionref04_Times.p3_ok g1 g2 g3 g32 g4 a0 a1 m31 la0 la1 lm31 ?hq0 k ([(m31.getD 0 0), (m31.getD 1 0), (m31.getD 2 0), (m31.getD 3 0)]) 0 0 0 e271 _ (rfl : List.length ([(m31.getD 0 0), (m31.getD 1 0), (m31.getD 2 0), (m31.getD 3 0)] : List Int) = 4) s4_e271 s5_e271 s12_e271 s13_e271 s14_e271 s78_e271 hp qr49)
    case hq0 =>
      intro e280 w m50 m51 m52 lm52 s4_e280 s12_e280 s13_e280 s14_e280 hp qq
      rw [qq] at h; clear qq
      refine wseq rfl ?_
      refine wregion (.tk 0 (.tp 1 (.tp 2 (.tp 3 (.ef 4 (.ef 5 (.done))))))) [5] rfl (by kernel_rfl) (by kernel_rfl) ?_
      refine k_loadA (n := 4) (xs := ints .u64 m52) 0 rfl (by kernel_rfl) (by kernel_rfl) s12_e280 (hp.get (j := 4) rfl) rfl rfl ((ints_length _ _).trans lm52) (fun m v hm => by rw [Nat.zero_add]; exact hm) ?_
      refine k_move (v := .int .u64 m50) rfl s13_e280 ?_
      refine k_move (v := .int .u64 m51) rfl s14_e280 ?_
      refine k_bin (X := .int .u64 m50) (Y := .int .u64 m51) rfl rfl rfl rfl ?_
      obtain ⟨r53, qr53, h⟩ := bd_e h
      refine k_call [.agg (ints .u64 m52).toArray, .int .u64 (IntKind.u64.wrap (m50 + m51))] rfl (by kernel_rfl) (args2 rfl rfl) (postilionref04_fold_ok k m52 (IntKind.u64.wrap (m50 + m51)) lm52 _ (hp.toR (fun _ h => by cases h)) qr53) ?_
      rintro _ w' ⟨_, rfl, rfl, lr530, hpc⟩
      refine ⟨_, rfl, .inr (.of_below hpc.chg.to_below), ?_⟩; have hp := hp.below hpc.chg.to_below; clear hpc
      refine k_storeA (v := .agg (ints .u64 r53).toArray) 2 0 (r := ⟨g3, 0, ints .u64 (List.replicate 4 (0 : Int))⟩) (ints .u64 r53) (ints .u64 r53) rfl (n := 4) (by kernel_rfl) s4_e280 rfl rfl ((ints_length _ _).trans lr530) (ints_one _ _) hp rfl rfl rfl (Nat.le_of_eq ((Nat.zero_add _).trans ((ints_length _ _).trans List.length_replicate).symm)) (setMany_all _ _ (((ints_length _ _).trans lr530).trans ((ints_length _ _).trans List.length_replicate).symm)) (by decide) ?_; intro w hp
      refine k_end ?_; intro e281 qe281
      have s4_e281 : e281 4 = .pointer (some ⟨g3, 0, none⟩) := (congrFun qe281 4).trans s4_e280
      clear qe281
      refine wret rfl ?_
      have hr : r = r53 := (Option.some.inj h).symm
      show RetP _ _ _ _ _
      rw [hr]
      exact ret_i [.agg (ints .u64 r53).toArray] (res_cell s4_e281 (loadVar_agg (by kernel_rfl) (by kernel_rfl) ((ints_length _ _).trans lr530) (hp.get (j := 2) rfl) rfl rfl rfl) res_nil) ⟨rfl, lr530, hp.none⟩
/-! 49 postilion/postilionref04.Power -/
theorem postilionref04_Power.p3_ok {w0 : World} {Ws : List Wr} {Q : Exit → Env → World → Prop} (k : Nat) (g1 g2 g3 g5 : Nat) (y7 : Int) (t11 : Bool) (a0 : List Int) (a1 : List Int) (r8 : List Int) (l_a0 : a0.length = 4) (l_a1 : a1.length = 4) (l_r8 : r8.length = 4) {r : List Int} (hQ0 : ∀ (e' : Env) (w' : World) (z0 : List Int), z0.length = 4 → e' 2 = .pointer (some ⟨g1, 0, none⟩) → e' 3 = .pointer (some ⟨g2, 0, none⟩) → e' 4 = .pointer (some ⟨g3, 0, none⟩) → e' 5 = .pointer (some ⟨g5, 0, none⟩) → e' 6 = .int .i64 y7 → Hp w0 Ws w' [⟨g1, 0, ints .u64 a0⟩, ⟨g2, 0, ints .u64 a1⟩, ⟨g3, 0, ints .u64 (List.replicate 4 (0 : Int))⟩, ⟨g5, 0, ints .u64 z0⟩] [] → r = (z0) → Q .normal e' w') (e : Env) (w : World) (s2_e : e 2 = .pointer (some ⟨g1, 0, none⟩)) (s3_e : e 3 = .pointer (some ⟨g2, 0, none⟩)) (s4_e : e 4 = .pointer (some ⟨g3, 0, none⟩)) (s5_e : e 5 = .pointer (some ⟨g5, 0, none⟩)) (s6_e : e 6 = .int .i64 y7) (s24_e : e 24 = .bool t11) (hp : Hp w0 Ws w [⟨g1, 0, ints .u64 a0⟩, ⟨g2, 0, ints .u64 a1⟩, ⟨g3, 0, ints .u64 (List.replicate 4 (0 : Int))⟩, ⟨g5, 0, ints .u64 r8⟩] []) (h : postilionref04_Power.p3 k t11 a0 r8 = some r) : Wp Try.prog Try.f49.ntmps (at_ (fbody Try.f49) [1, 1, 0, 1, 0, 0, 1, 0, 0, 1, 1]) Q e w := by
  unfold postilionref04_Power.p3 at h
  refine wcond (t := t11) rfl (by decide) s24_e (fun hb => ?_) (fun hb => ?_)
  · replace h := br_t hb h
    refine wregion (.tk 0 (.tk 1 (.ef 2 (.ef 3 (.done))))) [3] rfl (by kernel_rfl) (by kernel_rfl) ?_
    refine k_loadA (n := 4) (xs := ints .u64 r8) 0 rfl (by kernel_rfl) (by kernel_rfl) s5_e (hp.get (j := 3) rfl) rfl rfl ((ints_length _ _).trans l_r8) (fun m v hm => by rw [Nat.zero_add]; exact hm) ?_
    refine k_loadA (n := 4) (xs := ints .u64 a0) 0 rfl (by kernel_rfl) (by kernel_rfl) s2_e (hp.get (j := 0) rfl) rfl rfl ((ints_length _ _).trans l_a0) (fun m v hm => by rw [Nat.zero_add]; exact hm) ?_
    obtain ⟨r12, qr12, h⟩ := bd_e h
    refine k_call [.agg (ints .u64 r8).toArray, .agg (ints .u64 a0).toArray] rfl (by kernel_rfl) (args2 rfl rfl) (postilionref04_Times_ok k r8 a0 l_r8 l_a0 _ (hp.toR (fun _ h => by cases h)) qr12) ?_
    rintro _ w' ⟨_, rfl, rfl, lr120, hpc⟩
    refine ⟨_, rfl, .inr (.of_below hpc.chg.to_below), ?_⟩; have hp := hp.below hpc.chg.to_below; clear hpc
    refine k_storeA (v := .agg (ints .u64 r12).toArray) 3 0 (r := ⟨g5, 0, ints .u64 r8⟩) (ints .u64 r12) (ints .u64 r12) rfl (n := 4) (by kernel_rfl) s5_e rfl rfl ((ints_length _ _).trans lr120) (ints_one _ _) hp rfl rfl rfl (Nat.le_of_eq ((Nat.zero_add _).trans ((ints_length _ _).trans l_r8).symm)) (setMany_all _ _ (((ints_length _ _).trans lr120).trans ((ints_length _ _).trans l_r8).symm)) (by decide) ?_; intro w hp
    refine k_end ?_; intro e288 qe288
    have s2_e288 : e288 2 = .pointer (some ⟨g1, 0, none⟩) := (congrFun qe288 2).trans s2_e
    have s3_e288 : e288 3 = .pointer (some ⟨g2, 0, none⟩) := (congrFun qe288 3).trans s3_e
    have s4_e288 : e288 4 = .pointer (some ⟨g3, 0, none⟩) := (congrFun qe288 4).trans s4_e
    have s5_e288 : e288 5 = .pointer (some ⟨g5, 0, none⟩) := (congrFun qe288 5).trans s5_e
    have s6_e288 : e288 6 = .int .i64 y7 := (congrFun qe288 6).trans s6_e
    clear qe288
    exact hQ0 _ _ r12 lr120 s2_e288 s3_e288 s4_e288 s5_e288 s6_e288 (hp.drop (L' := [⟨g1, 0, ints .u64 a0⟩, ⟨g2, 0, ints .u64 a1⟩, ⟨g3, 0, ints .u64 (List.replicate 4 (0 : Int))⟩, ⟨g5, 0, ints .u64 r12⟩]) (List.Sublist.refl _)) (Option.some.inj h).symm
  · replace h := br_f hb h
    refine wskip rfl ?_
    exact hQ0 _ _ r8 l_r8 s2_e s3_e s4_e s5_e s6_e (hp.drop (L' := [⟨g1, 0, ints .u64 a0⟩, ⟨g2, 0, ints .u64 a1⟩, ⟨g3, 0, ints .u64 (List.replicate 4 (0 : Int))⟩, ⟨g5, 0, ints .u64 r8⟩]) (List.Sublist.refl _)) (Option.some.inj h).symm
theorem postilionref04_Power.p2_ok {w0 : World} {Ws : List Wr} {Q : Exit → Env → World → Prop} (k : Nat) (g1 g2 g3 g5 : Nat) (y7 : Int) (a0 : List Int) (a1 : List Int) (y6 : List Int) (l_y6 : y6.length = 4) (l_a0 : a0.length = 4) (l_a1 : a1.length = 4) {r : List Int} (hQ0 : ∀ (e' : Env) (w' : World) (z0 : List Int), z0.length = 4 → e' 2 = .pointer (some ⟨g1, 0, none⟩) → e' 3 = .pointer (some ⟨g2, 0, none⟩) → e' 4 = .pointer (some ⟨g3, 0, none⟩) → e' 5 = .pointer (some ⟨g5, 0, none⟩) → e' 6 = .int .i64 y7 → Hp w0 Ws w' [⟨g1, 0, ints .u64 a0⟩, ⟨g2, 0, ints .u64 a1⟩, ⟨g3, 0, ints .u64 (List.replicate 4 (0 : Int))⟩, ⟨g5, 0, ints .u64 z0⟩] [] → r = (z0) → Q .normal e' w') (e : Env) (w : World) (s2_e : e 2 = .pointer (some ⟨g1, 0, none⟩)) (s3_e : e 3 = .pointer (some ⟨g2, 0, none⟩)) (s4_e : e 4 = .pointer (some ⟨g3, 0, none⟩)) (s5_e : e 5 = .pointer (some ⟨g5, 0, none⟩)) (s6_e : e 6 = .int .i64 y7) (hp : Hp w0 Ws w [⟨g1, 0, ints .u64 a0⟩, ⟨g2, 0, ints .u64 a1⟩, ⟨g3, 0, ints .u64 (List.replicate 4 (0 : Int))⟩, ⟨g5, 0, ints .u64 y6⟩] []) (h : postilionref04_Power.p2 k y7 a0 a1 y6 = some r) : Wp Try.prog Try.f49.ntmps (at_ (fbody Try.f49) [1, 1, 0, 1, 0, 0, 1, 0]) Q e w := by
  unfold postilionref04_Power.p2 at h
  refine wblock rfl ?_
  refine wseq rfl ?_
  refine wregion (.tk 0 (.tk 1 (.ef 2 (.ef 3 (.done))))) [3] rfl (by kernel_rfl) (by kernel_rfl) ?_
  refine k_loadA (n := 4) (xs := ints .u64 y6) 0 rfl (by kernel_rfl) (by kernel_rfl) s5_e (hp.get (j := 3) rfl) rfl rfl ((ints_length _ _).trans l_y6) (fun m v hm => by rw [Nat.zero_add]; exact hm) ?_
  refine k_loadA (n := 4) (xs := ints .u64 y6) 0 rfl (by kernel_rfl) (by kernel_rfl) s5_e (hp.get (j := 3) rfl) rfl rfl ((ints_length _ _).trans l_y6) (fun m v hm => by rw [Nat.zero_add]; exact hm) ?_
  obtain ⟨r8, qr8, h⟩ := bd_e h
  refine k_call [.agg (ints .u64 y6).toArray, .agg (ints .u64 y6).toArray] rfl (by kernel_rfl) (args2 rfl rfl) (postilionref04_Times_ok k y6 y6 l_y6 l_y6 _ (hp.toR (fun _ h => by cases h)) qr8) ?_
  rintro _ w' ⟨_, rfl, rfl, lr80, hpc⟩
  refine ⟨_, rfl, .inr (.of_below hpc.chg.to_below), ?_⟩; have hp := hp.below hpc.chg.to_below; clear hpc
  refine k_storeA (v := .agg (ints .u64 r8).toArray) 3 0 (r := ⟨g5, 0, ints .u64 y6⟩) (ints .u64 r8) (ints .u64 r8) rfl (n := 4) (by kernel_rfl) s5_e rfl rfl ((ints_length _ _).trans lr80) (ints_one _ _) hp rfl rfl rfl (Nat.le_of_eq ((Nat.zero_add _).trans ((ints_length _ _).trans l_y6).symm)) (setMany_all _ _ (((ints_length _ _).trans lr80).trans ((ints_length _ _).trans l_y6).symm)) (by decide) ?_; intro w hp
  refine k_end ?_; intro e286 qe286
  have s2_e286 : e286 2 = .pointer (some ⟨g1, 0, none⟩) := (congrFun qe286 2).trans s2_e
  have s3_e286 : e286 3 = .pointer (some ⟨g2, 0, none⟩) := (congrFun qe286 3).trans s3_e
  have s4_e286 : e286 4 = .pointer (some ⟨g3, 0, none⟩) := (congrFun qe286 4).trans s4_e
  have s5_e286 : e286 5 = .pointer (some ⟨g5, 0, none⟩) := (congrFun qe286 5).trans s5_e
  have s6_e286 : e286 6 = .int .i64 y7 := (congrFun qe286 6).trans s6_e
  clear qe286
  refine wseq rfl ?_
  refine wregion (.tp 0 (.tp 1 (.tp 2 (.tk 3 (.tp 4 (.tp 5 (.tp 6 (.tp 7 (.tp 8 (.tp 9 (.done))))))))))) [] rfl (by kernel_rfl) (by kernel_rfl) ?_
  refine k_move (v := .int .i64 y7) rfl s6_e286 ?_
  refine k_quo (a := y7) (b := 64) rfl rfl rfl (by decide) ?_
  obtain ⟨c9, h⟩ := chk_e h
  refine k_indexA (n := 4) (s := 1) (j := (IntKind.i64.wrap (Int.tdiv y7 64))) rfl Try.underlying42 (by kernel_rfl) s3_e286 rfl c9 ?_
  refine k_load (j := ((IntKind.i64.wrap (Int.tdiv y7 64)) : Int).toNat) (v := .int .u64 (a1.getD ((IntKind.i64.wrap (Int.tdiv y7 64)) : Int).toNat 0)) rfl (by kernel_rfl) rfl (hp.get (j := 1) rfl) rfl (show 0 + ((IntKind.i64.wrap (Int.tdiv y7 64)) : Int).toNat * 1 = 0 + ((IntKind.i64.wrap (Int.tdiv y7 64)) : Int).toNat by omega) (ints_get (idx_lt c9 l_a1)) ?_
  refine k_move (v := .int .i64 y7) rfl s6_e286 ?_
  refine k_rem (a := y7) (b := 64) rfl rfl rfl (by decide) ?_
  refine k_conv (k := .u64) (k' := .i64) (n := (Int.tmod y7 64)) rfl Try.underlying3 Try.underlying52 rfl ?_
  obtain ⟨c10, h⟩ := chk_e h
  refine k_shr (a := (a1.getD ((IntKind.i64.wrap (Int.tdiv y7 64)) : Int).toNat 0)) (b := (IntKind.u64.wrap (Int.tmod y7 64))) rfl rfl rfl c10 ?_
  refine k_bin (X := .int .u64 (Int.fdiv (a1.getD ((IntKind.i64.wrap (Int.tdiv y7 64)) : Int).toNat 0) (2 ^ (min ((IntKind.u64.wrap (Int.tmod y7 64)) : Int).toNat (IntKind.u64).bits)))) (Y := .int .u64 1) rfl rfl rfl rfl ?_
  refine k_bin (X := .int .u64 (bits .and .u64 (Int.fdiv (a1.getD ((IntKind.i64.wrap (Int.tdiv y7 64)) : Int).toNat 0) (2 ^ (min ((IntKind.u64.wrap (Int.tmod y7 64)) : Int).toNat (IntKind.u64).bits))) 1)) (Y := .int .u64 1) rfl rfl rfl rfl ?_
  refine k_end ?_; intro e287 qe287
  have s2_e287 : e287 2 = .pointer (some ⟨g1, 0, none⟩) := (congrFun qe287 2).trans s2_e286
  have s3_e287 : e287 3 = .pointer (some ⟨g2, 0, none⟩) := (congrFun qe287 3).trans s3_e286
  have s4_e287 : e287 4 = .pointer (some ⟨g3, 0, none⟩) := (congrFun qe287 4).trans s4_e286
  have s5_e287 : e287 5 = .pointer (some ⟨g5, 0, none⟩) := (congrFun qe287 5).trans s5_e286
  have s6_e287 : e287 6 = .int .i64 y7 := (congrFun qe287 6).trans s6_e286
  obtain ⟨t11, qt11, h⟩ := lt_e h
  have s24_e287 : e287 24 = .bool t11 := (congrFun qe287 24).trans (congrArg Value.bool qt11.symm)
  clear qe287
  obtain ⟨r13, qr13, h⟩ := bd_e h
  refine postilionref04_Power.p3_ok k g1 g2 g3 g5 y7 t11 a0 a1 r8 l_a0 l_a1 lr80 ?hq0 e287 _ s2_e287 s3_e287 s4_e287 s5_e287 s6_e287 s24_e287 hp qr13
  case hq0 =>
    intro e289 w m14 lm14 s2_e289 s3_e289 s4_e289 s5_e289 s6_e289 hp qq
    rw [qq] at h; clear qq
    exact hQ0 _ _ m14 lm14 s2_e289 s3_e289 s4_e289 s5_e289 s6_e289 (hp.drop (L' := [⟨g1, 0, ints .u64 a0⟩, ⟨g2, 0, ints .u64 a1⟩, ⟨g3, 0, ints .u64 (List.replicate 4 (0 : Int))⟩, ⟨g5, 0, ints .u64 m14⟩]) (List.Sublist.refl _)) (Option.some.inj h).symm
theorem postilionref04_Power.p1_ok {w0 : World} {Ws : List Wr} {Q : Exit → Env → World → Prop} (g1 g2 g3 g5 : Nat) (a0 : List Int) (a1 : List Int) (l_a0 : a0.length = 4) (l_a1 : a1.length = 4) {r : List Int} (hQ0 : ∀ (e' : Env) (w' : World) (z0 : List Int), z0.length = 4 → e' 4 = .pointer (some ⟨g3, 0, none⟩) → e' 5 = .pointer (some ⟨g5, 0, none⟩) → Hp w0 Ws w' [⟨g1, 0, ints .u64 a0⟩, ⟨g2, 0, ints .u64 a1⟩, ⟨g3, 0, ints .u64 (List.replicate 4 (0 : Int))⟩, ⟨g5, 0, ints .u64 z0⟩] [] → r = (z0) → Q (.exit 0) e' w') : ∀ (k : Nat), ∀ (y6 : List Int) (y7 : Int) (e : Env) (w : World) (ly6 : y6.length = 4) (s2_e : e 2 = .pointer (some ⟨g1, 0, none⟩)) (s3_e : e 3 = .pointer (some ⟨g2, 0, none⟩)) (s4_e : e 4 = .pointer (some ⟨g3, 0, none⟩)) (s5_e : e 5 = .pointer (some ⟨g5, 0, none⟩)) (s6_e : e 6 = .int .i64 y7) (hp : Hp w0 Ws w [⟨g1, 0, ints .u64 a0⟩, ⟨g2, 0, ints .u64 a1⟩, ⟨g3, 0, ints .u64 (List.replicate 4 (0 : Int))⟩, ⟨g5, 0, ints .u64 y6⟩] []) (h : postilionref04_Power.p1 k a0 a1 y6 y7 = some r), Lp Try.prog Try.f49.ntmps (at_ (fbody Try.f49) [1, 1, 0, 1, 0, 0]) Q k e w := by
  intro k
  induction k with
  | zero => intro y6 y7 e w ly6 s2_e s3_e s4_e s5_e s6_e hp h; cases h
  | succ k ih =>
    intro y6 y7 e w ly6 s2_e s3_e s4_e s5_e s6_e hp h
    unfold postilionref04_Power.p1 at h
    show Wp _ _ _ _ _ _
    refine wseq rfl ?_
    refine wseq rfl ?_
    refine wregion (.tp 0 (.tp 1 (.done))) [] rfl (by kernel_rfl) (by kernel_rfl) ?_
    refine k_move (v := .int .i64 y7) rfl s6_e ?_
    refine k_bin (X := .int .i64 y7) (Y := .int .i64 0) rfl rfl rfl rfl ?_
    refine k_end ?_; intro e285 qe285
    have s2_e285 : e285 2 = .pointer (some ⟨g1, 0, none⟩) := (congrFun qe285 2).trans s2_e
    have s3_e285 : e285 3 = .pointer (some ⟨g2, 0, none⟩) := (congrFun qe285 3).trans s3_e
    have s4_e285 : e285 4 = .pointer (some ⟨g3, 0, none⟩) := (congrFun qe285 4).trans s4_e
    have s5_e285 : e285 5 = .pointer (some ⟨g5, 0, none⟩) := (congrFun qe285 5).trans s5_e
    have s6_e285 : e285 6 = .int .i64 y7 := (congrFun qe285 6).trans s6_e
    have s9_e285 : e285 9 = .bool (decide (y7 ≥ 0)) := congrFun qe285 9
    clear qe285
    refine wcond (t := (decide (y7 ≥ 0))) rfl (by decide) s9_e285 (fun hb => ?_) (fun hb => ?_)
    · replace h := br_t hb h
      refine wskip rfl ?_
      refine wseq rfl ?_
      obtain ⟨r15, qr15, h⟩ := bd_e h
      refine postilionref04_Power.p2_ok k g1 g2 g3 g5 y7 a0 a1 y6 ly6 l_a0 l_a1 ?hq0 e285 _ s2_e285 s3_e285 s4_e285 s5_e285 s6_e285 hp qr15
      case hq0 =>
        intro e290 w m16 lm16 s2_e290 s3_e290 s4_e290 s5_e290 s6_e290 hp qq
        rw [qq] at h; clear qq
        refine wregion (.tp 0 (.tp 1 (.tp 2 (.done)))) [] rfl (by kernel_rfl) (by kernel_rfl) ?_
        refine k_move (v := .int .i64 y7) rfl s6_e290 ?_
        refine k_bin (X := .int .i64 y7) (Y := .int .i64 1) rfl rfl rfl rfl ?_
        refine k_assign (v := .int .i64 (IntKind.i64.wrap (y7 - 1))) rfl rfl ?_
        refine k_end ?_; intro e291 qe291
        have s2_e291 : e291 2 = .pointer (some ⟨g1, 0, none⟩) := (congrFun qe291 2).trans s2_e290
        have s3_e291 : e291 3 = .pointer (some ⟨g2, 0, none⟩) := (congrFun qe291 3).trans s3_e290
        have s4_e291 : e291 4 = .pointer (some ⟨g3, 0, none⟩) := (congrFun qe291 4).trans s4_e290
        have s5_e291 : e291 5 = .pointer (some ⟨g5, 0, none⟩) := (congrFun qe291 5).trans s5_e290
        obtain ⟨x17, qx17, h⟩ := lt_e h
        have s6_e291 : e291 6 = .int .i64 x17 := (congrFun qe291 6).trans (congrArg (Value.int .i64) qx17.symm)
        clear qe291
        exact ih m16 x17 _ _ lm16 s2_e291 s3_e291 s4_e291 s5_e291 s6_e291 (hp.drop (L' := [⟨g1, 0, ints .u64 a0⟩, ⟨g2, 0, ints .u64 a1⟩, ⟨g3, 0, ints .u64 (List.replicate 4 (0 : Int))⟩, ⟨g5, 0, ints .u64 m16⟩]) (List.Sublist.refl _)) h
    · replace h := br_f hb h
      refine wexit rfl ?_
      exact hQ0 _ _ y6 ly6 s4_e285 s5_e285 (hp.drop (L' := [⟨g1, 0, ints .u64 a0⟩, ⟨g2, 0, ints .u64 a1⟩, ⟨g3, 0, ints .u64 (List.replicate 4 (0 : Int))⟩, ⟨g5, 0, ints .u64 y6⟩]) (List.Sublist.refl _)) (Option.some.inj h).symm
theorem postilionref04_Power_ok (k : Nat) (a0 : List Int) (a1 : List Int) (la0 : a0.length = 4) (la1 : a1.length = 4) (w0 : World) (hp : Hp w0 [] w0 [] []) {r : List Int} (h : postilionref04_Power.f k a0 a1 = some r) :
    Calls Try.prog 49 [.agg (ints .u64 a0).toArray, .agg (ints .u64 a1).toArray].toArray w0 fun x w' => ∃ v, x = .returned v ∧ v = .agg (ints .u64 r).toArray ∧ r.length = 4 ∧ Hp w0 [] w' [] [] := by
  refine calls_in Try.func49 rfl (Nat.le_of_ble_eq_true (by kernel_rfl)) (by kernel_rfl) ?_
  intro e0 qe0
  have s0_e0 : e0 0 = .agg (ints .u64 a0).toArray := congrFun qe0 0
  have s1_e0 : e0 1 = .agg (ints .u64 a1).toArray := congrFun qe0 1
  clear qe0
  unfold postilionref04_Power.f at h
  refine wseq rfl ?_
  refine wregion (.ef 0 (.ef 1 (.ef 2 (.done)))) [] rfl (by kernel_rfl) (by kernel_rfl) ?_
  refine k_box (v := .agg (ints .u64 a0).toArray) (ints .u64 a0) rfl s0_e0 rfl hp ?_
  intro g1 w hbg1 hp
  refine k_box (v := .agg (ints .u64 a1).toArray) (ints .u64 a1) rfl s1_e0 rfl hp ?_
  intro g2 w hbg2 hp
  refine k_alloc (ints .u64 (List.replicate 4 (0 : Int))) rfl (by kernel_rfl) hp ?_
  intro g3 w hbg3 hp
  refine k_end ?_; intro e282 qe282
  have s2_e282 : e282 2 = .pointer (some ⟨g1, 0, none⟩) := congrFun qe282 2
  have s3_e282 : e282 3 = .pointer (some ⟨g2, 0, none⟩) := congrFun qe282 3
  have s4_e282 : e282 4 = .pointer (some ⟨g3, 0, none⟩) := congrFun qe282 4
  clear qe282
  refine wseq rfl ?_
  refine wregion (.ef 0 (.ef 1 (.ef 2 (.done)))) [2] rfl (by kernel_rfl) (by kernel_rfl) ?_
  obtain ⟨r4, qr4, h⟩ := bd_e h
  refine k_call [.int .u64 1] rfl (by kernel_rfl) (args1 rfl) (postilionref04_Small_ok 1  _ (hp.toR (fun _ h => by cases h)) qr4) ?_
  rintro _ w' ⟨_, rfl, rfl, lr40, hpc⟩
  refine ⟨_, rfl, .inr (.of_below hpc.chg.to_below), ?_⟩; have hp := hp.below hpc.chg.to_below; clear hpc
  refine k_alloc (ints .u64 (List.replicate 4 (0 : Int))) rfl (by kernel_rfl) hp ?_
  intro g5 w hbg5 hp
  refine k_storeA (v := .agg (ints .u64 r4).toArray) 3 0 (r := ⟨g5, 0, ints .u64 (List.replicate 4 (0 : Int))⟩) (ints .u64 r4) (ints .u64 r4) rfl (n := 4) (by kernel_rfl) rfl rfl rfl ((ints_length _ _).trans lr40) (ints_one _ _) hp rfl rfl rfl (Nat.le_of_eq ((Nat.zero_add _).trans ((ints_length _ _).trans List.length_replicate).symm)) (setMany_all _ _ (((ints_length _ _).trans lr40).trans ((ints_length _ _).trans List.length_replicate).symm)) (by decide) ?_; intro w hp
  refine k_end ?_; intro e283 qe283
  have s2_e283 : e283 2 = .pointer (some ⟨g1, 0, none⟩) := (congrFun qe283 2).trans s2_e282
  have s3_e283 : e283 3 = .pointer (some ⟨g2, 0, none⟩) := (congrFun qe283 3).trans s3_e282
  have s4_e283 : e283 4 = .pointer (some ⟨g3, 0, none⟩) := (congrFun qe283 4).trans s4_e282
  have s5_e283 : e283 5 = .pointer (some ⟨g5, 0, none⟩) := congrFun qe283 5
  clear qe283
  refine wseq rfl ?_
  refine wseq rfl ?_
  refine wregion (.tp 0 (.done)) [] rfl (by kernel_rfl) (by kernel_rfl) ?_
  refine k_assign (v := .int .i64 255) rfl rfl ?_
  refine k_end ?_; intro e284 qe284
  have s2_e284 : e284 2 = .pointer (some ⟨g1, 0, none⟩) := (congrFun qe284 2).trans s2_e283
  have s3_e284 : e284 3 = .pointer (some ⟨g2, 0, none⟩) := (congrFun qe284 3).trans s3_e283
  have s4_e284 : e284 4 = .pointer (some ⟨g3, 0, none⟩) := (congrFun qe284 4).trans s4_e283
  have s5_e284 : e284 5 = .pointer (some ⟨g5, 0, none⟩) := (congrFun qe284 5).trans s5_e283
  have s6_e284 : e284 6 = .int .i64 255 := congrFun qe284 6
  clear qe284
  refine wblock rfl ?_
  obtain ⟨r18, qr18, h⟩ := bd_e h
  refine wloop k rfl (postilionref04_Power.p1_ok g1 g2 g3 g5 a0 a1 la0 la1 ?hq0 k r4 255 e284 _ lr40 s2_e284 s3_e284 s4_e284 s5_e284 s6_e284 hp qr18)
  case hq0 =>
    intro e292 w m19 lm19 s4_e292 s5_e292 hp qq
    rw [qq] at h; clear qq
    refine wseq rfl ?_
    refine wregion (.tk 0 (.ef 1 (.done))) [1] rfl (by kernel_rfl) (by kernel_rfl) ?_
    refine k_loadA (n := 4) (xs := ints .u64 m19) 0 rfl (by kernel_rfl) (by kernel_rfl) s5_e292 (hp.get (j := 3) rfl) rfl rfl ((ints_length _ _).trans lm19) (fun m v hm => by rw [Nat.zero_add]; exact hm) ?_
    refine k_storeA (v := .agg (ints .u64 m19).toArray) 2 0 (r := ⟨g3, 0, ints .u64 (List.replicate 4 (0 : Int))⟩) (ints .u64 m19) (ints .u64 m19) rfl (n := 4) (by kernel_rfl) s4_e292 rfl rfl ((ints_length _ _).trans lm19) (ints_one _ _) hp rfl rfl rfl (Nat.le_of_eq ((Nat.zero_add _).trans ((ints_length _ _).trans List.length_replicate).symm)) (setMany_all _ _ (((ints_length _ _).trans lm19).trans ((ints_length _ _).trans List.length_replicate).symm)) (by decide) ?_; intro w hp
    refine k_end ?_; intro e293 qe293
    have s4_e293 : e293 4 = .pointer (some ⟨g3, 0, none⟩) := (congrFun qe293 4).trans s4_e292
    clear qe293
    refine wret rfl ?_
    have hr : r = m19 := (Option.some.inj h).symm
    show RetP _ _ _ _ _
    rw [hr]
    exact ret_i [.agg (ints .u64 m19).toArray] (res_cell s4_e293 (loadVar_agg (by kernel_rfl) (by kernel_rfl) ((ints_length _ _).trans lm19) (hp.get (j := 2) rfl) rfl rfl rfl) res_nil) ⟨rfl, lm19, hp.none⟩
/-! 35 postilion/postilionref04.p -/
theorem postilionref04_p_ok  (w0 : World) (hp : Hp w0 [] w0 [] []) {r : List Int} (h : postilionref04_p.f  = some r) :
    Calls Try.prog 35 [].toArray w0 fun x w' => ∃ v, x = .returned v ∧ v = .agg (ints .u64 r).toArray ∧ r.length = 4 ∧ Hp w0 [] w' [] [] := by
  refine calls_in Try.func35 rfl (Nat.le_of_ble_eq_true (by kernel_rfl)) (by kernel_rfl) ?_
  intro e0 qe0
  clear qe0
  unfold postilionref04_p.f at h
  refine wseq rfl ?_
  refine wregion (.ef 0 (.done)) [] rfl (by kernel_rfl) (by kernel_rfl) ?_
  refine k_alloc (ints .u64 (List.replicate 4 (0 : Int))) rfl (by kernel_rfl) hp ?_
  intro g1 w hbg1 hp
  refine k_end ?_; intro e294 qe294
  have s0_e294 : e294 0 = .pointer (some ⟨g1, 0, none⟩) := congrFun qe294 0
  clear qe294
  refine wseq rfl ?_
  refine wregion (.tp 0 (.ef 1 (.done))) [1] rfl (by kernel_rfl) (by kernel_rfl) ?_
  refine k_build (v := .agg (ints .u64 [18446744073709551597, 18446744073709551615, 18446744073709551615, 9223372036854775807]).toArray) rfl (fun _ => by kernel_rfl) ?_
  refine k_storeA (v := .agg (ints .u64 [18446744073709551597, 18446744073709551615, 18446744073709551615, 9223372036854775807]).toArray) 0 0 (r := ⟨g1, 0, ints .u64 (List.replicate 4 (0 : Int))⟩) (ints .u64 [18446744073709551597, 18446744073709551615, 18446744073709551615, 9223372036854775807]) (ints .u64 [18446744073709551597, 18446744073709551615, 18446744073709551615, 9223372036854775807]) rfl (n := 4) (by kernel_rfl) s0_e294 rfl rfl ((ints_length _ _).trans (rfl : List.length ([18446744073709551597, 18446744073709551615, 18446744073709551615, 9223372036854775807] : List Int) = 4)) (ints_one _ _) hp rfl rfl rfl (Nat.le_of_eq ((Nat.zero_add _).trans ((ints_length _ _).trans List.length_replicate).symm)) (setMany_all _ _ (((ints_length _ _).trans (rfl : List.length ([18446744073709551597, 18446744073709551615, 18446744073709551615, 9223372036854775807] : List Int) = 4)).trans ((ints_length _ _).trans List.length_replicate).symm)) (by decide) ?_; intro w hp
  refine k_end ?_; intro e295 qe295
  have s0_e295 : e295 0 = .pointer (some ⟨g1, 0, none⟩) := (congrFun qe295 0).trans s0_e294
  clear qe295
  refine wret rfl ?_
  have hr : r = [18446744073709551597, 18446744073709551615, 18446744073709551615, 9223372036854775807] := (Option.some.inj h).symm
  show RetP _ _ _ _ _
  rw [hr]
  exact ret_i [.agg (ints .u64 [18446744073709551597, 18446744073709551615, 18446744073709551615, 9223372036854775807]).toArray] (res_cell s0_e295 (loadVar_agg (by kernel_rfl) (by kernel_rfl) ((ints_length _ _).trans (rfl : List.length ([18446744073709551597, 18446744073709551615, 18446744073709551615, 9223372036854775807] : List Int) = 4)) (hp.get (j := 0) rfl) rfl rfl rfl) res_nil) ⟨rfl, (rfl : List.length ([18446744073709551597, 18446744073709551615, 18446744073709551615, 9223372036854775807] : List Int) = 4), hp.none⟩
/-! 34 postilion/postilionref04.below -/
theorem postilionref04_below.p1_ok {w0 : World} {Ws : List Wr} {Q : Exit → Env → World → Prop} (g1 g2 : Nat) (a0 : List Int) (a1 : List Int) (l_a0 : a0.length = 4) (l_a1 : a1.length = 4) {r : (Unit) ⊕ (Bool)} (hQ0 : ∀ (e' : Env) (w' : World) , Hp w0 Ws w' [⟨g1, 0, ints .u64 a0⟩, ⟨g2, 0, ints .u64 a1⟩] [] → r = (.inl ()) → Q (.exit 0) e' w') (hQ1 : ∀ (e' : Env) (w' : World) (z0 : Bool), e' 4 = .bool z0 → Hp w0 Ws w' [⟨g1, 0, ints .u64 a0⟩, ⟨g2, 0, ints .u64 a1⟩] [] → r = (.inr (z0)) → Q .ret e' w') : ∀ (k : Nat), ∀ (y3 : Int) (e : Env) (w : World)  (s2_e : e 2 = .pointer (some ⟨g1, 0, none⟩)) (s3_e : e 3 = .pointer (some ⟨g2, 0, none⟩)) (s5_e : e 5 = .int .i64 y3) (hp : Hp w0 Ws w [⟨g1, 0, ints .u64 a0⟩, ⟨g2, 0, ints .u64 a1⟩] []) (h : postilionref04_below.p1 k a0 a1 y3 = some r), Lp Try.prog Try.f34.ntmps (at_ (fbody Try.f34) [1, 0, 1, 0, 0]) Q k e w := by
  intro k
  induction k with
  | zero => intro y3 e w  s2_e s3_e s5_e hp h; cases h
  | succ k ih =>
    intro y3 e w  s2_e s3_e s5_e hp h
    unfold postilionref04_below.p1 at h
    show Wp _ _ _ _ _ _
    refine wseq rfl ?_
    refine wseq rfl ?_
    refine wregion (.tp 0 (.tp 1 (.done))) [] rfl (by kernel_rfl) (by kernel_rfl) ?_
    refine k_move (v := .int .i64 y3) rfl s5_e ?_
    refine k_bin (X := .int .i64 y3) (Y := .int .i64 0) rfl rfl rfl rfl ?_
    refine k_end ?_; intro e298 qe298
    have s2_e298 : e298 2 = .pointer (some ⟨g1, 0, none⟩) := (congrFun qe298 2).trans s2_e
    have s3_e298 : e298 3 = .pointer (some ⟨g2, 0, none⟩) := (congrFun qe298 3).trans s3_e
    have s5_e298 : e298 5 = .int .i64 y3 := (congrFun qe298 5).trans s5_e
    have s7_e298 : e298 7 = .bool (decide (y3 ≥ 0)) := congrFun qe298 7
    clear qe298
    refine wcond (t := (decide (y3 ≥ 0))) rfl (by decide) s7_e298 (fun hb => ?_) (fun hb => ?_)
    · replace h := br_t hb h
      refine wskip rfl ?_
      refine wseq rfl ?_
      refine wblock rfl ?_
      refine wseq rfl ?_
      refine wregion_m (.tp 0 (.tp 1 (.tk 2 (.tp 3 (.tp 4 (.tk 5 (.tp 6 (.done)))))))) [] [(0, 0, 127), (1, 1, 127), (2, 2, 0), (0, 0, 127), (8, 8, 127), (16, 16, 0), (36, 36, 127)] rfl (by kernel_rfl) (by kernel_rfl) (Nat.le_of_ble_eq_true (by kernel_rfl)) (by kernel_rfl) (by kernel_rfl) ?_
      have hp := hp.drew
      refine k_move (v := .int .i64 y3) rfl s5_e298 ?_
      obtain ⟨c4, h⟩ := chk_e h
      refine k_indexA (n := 4) (s := 1) (j := y3) rfl Try.underlying42 (by kernel_rfl) s2_e298 rfl c4 ?_
      refine k_load (j := (y3 : Int).toNat) (v := .int .u64 (a0.getD (y3 : Int).toNat 0)) rfl (by kernel_rfl) rfl (hp.get (j := 0) rfl) rfl (show 0 + (y3 : Int).toNat * 1 = 0 + (y3 : Int).toNat by omega) (ints_get (idx_lt c4 l_a0)) ?_
      refine k_move (v := .int .i64 y3) rfl s5_e298 ?_
      refine k_indexA (n := 4) (s := 1) (j := y3) rfl Try.underlying42 (by kernel_rfl) s3_e298 rfl c4 ?_
      refine k_load (j := (y3 : Int).toNat) (v := .int .u64 (a1.getD (y3 : Int).toNat 0)) rfl (by kernel_rfl) rfl (hp.get (j := 1) rfl) rfl (show 0 + (y3 : Int).toNat * 1 = 0 + (y3 : Int).toNat by omega) (ints_get (idx_lt c4 l_a1)) ?_
      refine k_bin (X := .int .u64 (a0.getD (y3 : Int).toNat 0)) (Y := .int .u64 (a1.getD (y3 : Int).toNat 0)) rfl rfl rfl rfl ?_
      refine k_end ?_; intro e299 qe299
      have s2_e299 : e299 2 = .pointer (some ⟨g1, 0, none⟩) := (congrFun qe299 2).trans s2_e298
      have s3_e299 : e299 3 = .pointer (some ⟨g2, 0, none⟩) := (congrFun qe299 3).trans s3_e298
      have s5_e299 : e299 5 = .int .i64 y3 := (congrFun qe299 5).trans s5_e298
      obtain ⟨t5, qt5, h⟩ := lt_e h
      have s16_e299 : e299 16 = .bool t5 := (congrFun qe299 16).trans (congrArg Value.bool qt5.symm)
      clear qe299
      refine wcond (t := t5) rfl (by decide) s16_e299 (fun hb => ?_) (fun hb => ?_)
      · replace h := br_t hb h
        refine wseq rfl ?_
        refine wregion_m (.tp 0 (.tp 1 (.tk 2 (.tp 3 (.tp 4 (.tk 5 (.tp 6 (.tp 7 (.done))))))))) [] [(0, 0, 255), (1, 1, 255), (2, 2, 0), (0, 0, 255), (8, 8, 255), (16, 16, 0), (36, 36, 255), (127, 64, 255)] rfl (by kernel_rfl) (by kernel_rfl) (Nat.le_of_ble_eq_true (by kernel_rfl)) (by kernel_rfl) (by kernel_rfl) ?_
        have hp := hp.drew
        refine k_move (v := .int .i64 y3) rfl s5_e299 ?_
        refine k_indexA (n := 4) (s := 1) (j := y3) rfl Try.underlying42 (by kernel_rfl) s2_e299 rfl c4 ?_
        refine k_load (j := (y3 : Int).toNat) (v := .int .u64 (a0.getD (y3 : Int).toNat 0)) rfl (by kernel_rfl) rfl (hp.get (j := 0) rfl) rfl (show 0 + (y3 : Int).toNat * 1 = 0 + (y3 : Int).toNat by omega) (ints_get (idx_lt c4 l_a0)) ?_
        refine k_move (v := .int .i64 y3) rfl s5_e299 ?_
        refine k_indexA (n := 4) (s := 1) (j := y3) rfl Try.underlying42 (by kernel_rfl) s3_e299 rfl c4 ?_
        refine k_load (j := (y3 : Int).toNat) (v := .int .u64 (a1.getD (y3 : Int).toNat 0)) rfl (by kernel_rfl) rfl (hp.get (j := 1) rfl) rfl (show 0 + (y3 : Int).toNat * 1 = 0 + (y3 : Int).toNat by omega) (ints_get (idx_lt c4 l_a1)) ?_
        refine k_bin (X := .int .u64 (a0.getD (y3 : Int).toNat 0)) (Y := .int .u64 (a1.getD (y3 : Int).toNat 0)) rfl rfl rfl rfl ?_
        refine k_assign (v := .bool (decide ((a0.getD (y3 : Int).toNat 0) < (a1.getD (y3 : Int).toNat 0)))) rfl rfl ?_
        refine k_end ?_; intro e300 qe300
        obtain ⟨t6, qt6, h⟩ := lt_e h
        have s4_e300 : e300 4 = .bool t6 := (congrFun qe300 4).trans (congrArg Value.bool qt6.symm)
        clear qe300
        refine wret rfl ?_
        exact hQ1 _ _ t6  s4_e300 (hp.drop (L' := [⟨g1, 0, ints .u64 a0⟩, ⟨g2, 0, ints .u64 a1⟩]) (List.Sublist.refl _)) (Option.some.inj h).symm
      · replace h := br_f hb h
        refine wskip rfl ?_
        refine wregion (.tp 0 (.tp 1 (.tp 2 (.done)))) [] rfl (by kernel_rfl) (by kernel_rfl) ?_
        refine k_move (v := .int .i64 y3) rfl s5_e299 ?_
        refine k_bin (X := .int .i64 y3) (Y := .int .i64 1) rfl rfl rfl rfl ?_
        refine k_assign (v := .int .i64 (IntKind.i64.wrap (y3 - 1))) rfl rfl ?_
        refine k_end ?_; intro e301 qe301
        have s2_e301 : e301 2 = .pointer (some ⟨g1, 0, none⟩) := (congrFun qe301 2).trans s2_e299
        have s3_e301 : e301 3 = .pointer (some ⟨g2, 0, none⟩) := (congrFun qe301 3).trans s3_e299
        obtain ⟨x7, qx7, h⟩ := lt_e h
        have s5_e301 : e301 5 = .int .i64 x7 := (congrFun qe301 5).trans (congrArg (Value.int .i64) qx7.symm)
        clear qe301
        exact ih x7 _ _  s2_e301 s3_e301 s5_e301 (hp.drop (L' := [⟨g1, 0, ints .u64 a0⟩, ⟨g2, 0, ints .u64 a1⟩]) (List.Sublist.refl _)) h
    · replace h := br_f hb h
      refine wexit rfl ?_
      exact hQ0 _ _    (hp.drop (L' := [⟨g1, 0, ints .u64 a0⟩, ⟨g2, 0, ints .u64 a1⟩]) (List.Sublist.refl _)) (Option.some.inj h).symm
theorem postilionref04_below_ok (k : Nat) (a0 : List Int) (a1 : List Int) (la0 : a0.length = 4) (la1 : a1.length = 4) (w0 : World) (hp : Hp w0 [] w0 [] []) {r : Bool} (h : postilionref04_below.f k a0 a1 = some r) :
    Calls Try.prog 34 [.agg (ints .u64 a0).toArray, .agg (ints .u64 a1).toArray].toArray w0 fun x w' => ∃ v, x = .returned v ∧ v = .bool r ∧ Hp w0 [] w' [] [] := by
  refine calls_in Try.func34 rfl (Nat.le_of_ble_eq_true (by kernel_rfl)) (by kernel_rfl) ?_
  intro e0 qe0
  have s0_e0 : e0 0 = .agg (ints .u64 a0).toArray := congrFun qe0 0
  have s1_e0 : e0 1 = .agg (ints .u64 a1).toArray := congrFun qe0 1
  clear qe0
  unfold postilionref04_below.f at h
  refine wseq rfl ?_
  refine wregion (.ef 0 (.ef 1 (.tp 2 (.done)))) [] rfl (by kernel_rfl) (by kernel_rfl) ?_
  refine k_box (v := .agg (ints .u64 a0).toArray) (ints .u64 a0) rfl s0_e0 rfl hp ?_
  intro g1 w hbg1 hp
  refine k_box (v := .agg (ints .u64 a1).toArray) (ints .u64 a1) rfl s1_e0 rfl hp ?_
  intro g2 w hbg2 hp
  refine k_assign (v := .bool false) rfl rfl ?_
  refine k_end ?_; intro e296 qe296
  have s2_e296 : e296 2 = .pointer (some ⟨g1, 0, none⟩) := congrFun qe296 2
  have s3_e296 : e296 3 = .pointer (some ⟨g2, 0, none⟩) := congrFun qe296 3
  clear qe296
  refine wseq rfl ?_
  refine wseq rfl ?_
  refine wregion (.tp 0 (.done)) [] rfl (by kernel_rfl) (by kernel_rfl) ?_
  refine k_assign (v := .int .i64 3) rfl rfl ?_
  refine k_end ?_; intro e297 qe297
  have s2_e297 : e297 2 = .pointer (some ⟨g1, 0, none⟩) := (congrFun qe297 2).trans s2_e296
  have s3_e297 : e297 3 = .pointer (some ⟨g2, 0, none⟩) := (congrFun qe297 3).trans s3_e296
  have s5_e297 : e297 5 = .int .i64 3 := congrFun qe297 5
  clear qe297
  refine wblock rfl ?_
  obtain ⟨r8, qr8, h⟩ := bd_e h
  refine wloop k rfl (postilionref04_below.p1_ok g1 g2 a0 a1 la0 la1 ?hq0 ?hq1 k 3 e297 _  s2_e297 s3_e297 s5_e297 hp qr8)
  case hq0 =>
    intro e302 w    hp qq
    rw [qq] at h; clear qq
    refine wseq rfl ?_
    refine wregion (.tp 0 (.done)) [] rfl (by kernel_rfl) (by kernel_rfl) ?_
    refine k_assign (v := .bool false) rfl rfl ?_
    refine k_end ?_; intro e303 qe303
    have s4_e303 : e303 4 = .bool false := congrFun qe303 4
    clear qe303
    refine wret rfl ?_
    have hr : r = false := (Option.some.inj h).symm
    show RetP _ _ _ _ _
    rw [hr]
    exact ret_i [.bool false] (res_tmp s4_e303 res_nil) ⟨rfl, hp.none⟩
  case hq1 =>
    intro e304 w m9  s4_e304 hp qq
    rw [qq] at h; clear qq
    have hr : r = m9 := (Option.some.inj h).symm
    show RetP _ _ _ _ _
    rw [hr]
    exact ret_i [.bool m9] (res_tmp s4_e304 res_nil) ⟨rfl, hp.none⟩
/-! 53 postilion/postilionref04.less -/
theorem postilionref04_less.p1_ok {w0 : World} {Ws : List Wr} {Q : Exit → Env → World → Prop} (g1 g2 g3 g4 : Nat) (a0 : List Int) (a1 : List Int) (l_a0 : a0.length = 4) (l_a1 : a1.length = 4) {r : List Int} (hQ0 : ∀ (e' : Env) (w' : World) (z0 : List Int), z0.length = 4 → e' 4 = .pointer (some ⟨g3, 0, none⟩) → e' 5 = .pointer (some ⟨g4, 0, none⟩) → Hp w0 Ws w' [⟨g1, 0, ints .u64 a0⟩, ⟨g2, 0, ints .u64 a1⟩, ⟨g3, 0, ints .u64 (List.replicate 4 (0 : Int))⟩, ⟨g4, 0, ints .u64 z0⟩] [] → r = (z0) → Q (.exit 0) e' w') : ∀ (k : Nat), ∀ (y5 : List Int) (y6 : Int) (y7 : Int) (e : Env) (w : World) (ly5 : y5.length = 4) (s2_e : e 2 = .pointer (some ⟨g1, 0, none⟩)) (s3_e : e 3 = .pointer (some ⟨g2, 0, none⟩)) (s4_e : e 4 = .pointer (some ⟨g3, 0, none⟩)) (s5_e : e 5 = .pointer (some ⟨g4, 0, none⟩)) (s6_e : e 6 = .int .u64 y6) (s8_e : e 8 = .int .i64 y7) (hp : Hp w0 Ws w [⟨g1, 0, ints .u64 a0⟩, ⟨g2, 0, ints .u64 a1⟩, ⟨g3, 0, ints .u64 (List.replicate 4 (0 : Int))⟩, ⟨g4, 0, ints .u64 y5⟩] []) (h : postilionref04_less.p1 k a0 a1 y5 y6 y7 = some r), Lp Try.prog Try.f53.ntmps (at_ (fbody Try.f53) [1, 1, 1, 0, 1, 0, 0]) Q k e w := by
  intro k
  induction k with
  | zero => intro y5 y6 y7 e w ly5 s2_e s3_e s4_e s5_e s6_e s8_e hp h; cases h
  | succ k ih =>
    intro y5 y6 y7 e w ly5 s2_e s3_e s4_e s5_e s6_e s8_e hp h
    unfold postilionref04_less.p1 at h
    show Wp _ _ _ _ _ _
    refine wseq rfl ?_
    refine wregion (.tp 0 (.done)) [] rfl (by kernel_rfl) (by kernel_rfl) ?_
    refine k_bin (X := .int .i64 y7) (Y := .int .i64 4) rfl s8_e rfl rfl ?_
    refine k_end ?_; intro e309 qe309
    have s2_e309 : e309 2 = .pointer (some ⟨g1, 0, none⟩) := (congrFun qe309 2).trans s2_e
    have s3_e309 : e309 3 = .pointer (some ⟨g2, 0, none⟩) := (congrFun qe309 3).trans s3_e
    have s4_e309 : e309 4 = .pointer (some ⟨g3, 0, none⟩) := (congrFun qe309 4).trans s4_e
    have s5_e309 : e309 5 = .pointer (some ⟨g4, 0, none⟩) := (congrFun qe309 5).trans s5_e
    have s6_e309 : e309 6 = .int .u64 y6 := (congrFun qe309 6).trans s6_e
    have s8_e309 : e309 8 = .int .i64 y7 := (congrFun qe309 8).trans s8_e
    have s9_e309 : e309 9 = .bool (decide (y7 < 4)) := congrFun qe309 9
    clear qe309
    refine wseq rfl ?_
    refine wcond (t := (decide (y7 < 4))) rfl (by decide) s9_e309 (fun hb => ?_) (fun hb => ?_)
    · replace h := br_t hb h
      refine wskip rfl ?_
      refine wseq rfl ?_
      refine wblock rfl ?_
      refine wseq rfl ?_
      refine wregion (.tp 0 (.tp 1 (.done))) [] rfl (by kernel_rfl) (by kernel_rfl) ?_
      refine k_move (v := .int .i64 y7) rfl s8_e309 ?_
      refine k_assign (v := .int .i64 y7) rfl rfl ?_
      refine k_end ?_; intro e310 qe310
      have s2_e310 : e310 2 = .pointer (some ⟨g1, 0, none⟩) := (congrFun qe310 2).trans s2_e309
      have s3_e310 : e310 3 = .pointer (some ⟨g2, 0, none⟩) := (congrFun qe310 3).trans s3_e309
      have s4_e310 : e310 4 = .pointer (some ⟨g3, 0, none⟩) := (congrFun qe310 4).trans s4_e309
      have s5_e310 : e310 5 = .pointer (some ⟨g4, 0, none⟩) := (congrFun qe310 5).trans s5_e309
      have s6_e310 : e310 6 = .int .u64 y6 := (congrFun qe310 6).trans s6_e309
      have s7_e310 : e310 7 = .int .i64 y7 := congrFun qe310 7
      have s8_e310 : e310 8 = .int .i64 y7 := (congrFun qe310 8).trans s8_e309
      clear qe310
      refine wregion_m (.tp 0 (.tp 1 (.tp 2 (.tk 3 (.tp 4 (.tp 5 (.tk 6 (.tp 7 (.tp 8 (.tp 9 (.tp 10 (.tp 11 (.tp 12 (.ef 13 (.tp 14 (.done)))))))))))))))) [13] [(0, 0, 32767), (0, 0, 32767), (2, 2, 32767), (4, 4, 0), (0, 0, 32767), (16, 16, 32767), (32, 32, 0), (0, 0, 32767), (200, 200, 32767), (256, 256, 32767), (512, 512, 32767), (512, 512, 32767), (2047, 1, 32767), (6143, 32767, 32767), (16383, 2176, 32767)] rfl (by kernel_rfl) (by kernel_rfl) (Nat.le_of_ble_eq_true (by kernel_rfl)) (by kernel_rfl) (by kernel_rfl) ?_
      have hp := hp.drew
      refine k_move (v := .int .i64 y7) rfl s7_e310 ?_
      refine k_move (v := .int .i64 y7) rfl s7_e310 ?_
      obtain ⟨c8, h⟩ := chk_e h
      refine k_indexA (n := 4) (s := 1) (j := y7) rfl Try.underlying42 (by kernel_rfl) s2_e310 rfl c8 ?_
      refine k_load (j := (y7 : Int).toNat) (v := .int .u64 (a0.getD (y7 : Int).toNat 0)) rfl (by kernel_rfl) rfl (hp.get (j := 0) rfl) rfl (show 0 + (y7 : Int).toNat * 1 = 0 + (y7 : Int).toNat by omega) (ints_get (idx_lt c8 l_a0)) ?_
      refine k_move (v := .int .i64 y7) rfl s7_e310 ?_
      refine k_indexA (n := 4) (s := 1) (j := y7) rfl Try.underlying42 (by kernel_rfl) s3_e310 rfl c8 ?_
      refine k_load (j := (y7 : Int).toNat) (v := .int .u64 (a1.getD (y7 : Int).toNat 0)) rfl (by kernel_rfl) rfl (hp.get (j := 1) rfl) rfl (show 0 + (y7 : Int).toNat * 1 = 0 + (y7 : Int).toNat by omega) (ints_get (idx_lt c8 l_a1)) ?_
      refine k_move (v := .int .u64 y6) rfl s6_e310 ?_
      obtain ⟨c9, h⟩ := chk_e h
      refine k_ext [.int .u64 (a0.getD (y7 : Int).toNat 0), .int .u64 (a1.getD (y7 : Int).toNat 0), .int .u64 y6] rfl ext57 (args3 rfl rfl rfl) (fun w' => run_sub64 (a0.getD (y7 : Int).toNat 0) (a1.getD (y7 : Int).toNat 0) y6 c9.1 c9.2.1 c9.2.2.1 c9.2.2.2 w') ?_
      refine k_move (v := .tuple #[.int .u64 (((a0.getD (y7 : Int).toNat 0) - (a1.getD (y7 : Int).toNat 0) - y6) % 18446744073709551616), .int .u64 (if (a0.getD (y7 : Int).toNat 0) < (a1.getD (y7 : Int).toNat 0) + y6 then 1 else 0)]) rfl rfl ?_
      refine k_extract (v := .int .u64 (((a0.getD (y7 : Int).toNat 0) - (a1.getD (y7 : Int).toNat 0) - y6) % 18446744073709551616)) rfl rfl rfl ?_
      refine k_extract (v := .int .u64 (if (a0.getD (y7 : Int).toNat 0) < (a1.getD (y7 : Int).toNat 0) + y6 then 1 else 0)) rfl rfl rfl ?_
      refine k_indexA (n := 4) (s := 1) (j := y7) rfl Try.underlying42 (by kernel_rfl) s5_e310 rfl c8 ?_
      refine k_store (v := .int .u64 (((a0.getD (y7 : Int).toNat 0) - (a1.getD (y7 : Int).toNat 0) - y6) % 18446744073709551616)) 3 (y7 : Int).toNat (r := ⟨g4, 0, ints .u64 y5⟩) rfl (by kernel_rfl) rfl rfl rfl hp rfl rfl (show 0 + (y7 : Int).toNat * 1 = 0 + (y7 : Int).toNat by omega) (Nat.lt_of_lt_of_eq (idx_lt c8 ly5) (ints_length _ _).symm) (by decide) ?_; intro w hp; rw [ints_set] at hp
      refine k_assign (v := .int .u64 (if (a0.getD (y7 : Int).toNat 0) < (a1.getD (y7 : Int).toNat 0) + y6 then 1 else 0)) rfl rfl ?_
      refine k_end ?_; intro e311 qe311
      have s2_e311 : e311 2 = .pointer (some ⟨g1, 0, none⟩) := (congrFun qe311 2).trans s2_e310
      have s3_e311 : e311 3 = .pointer (some ⟨g2, 0, none⟩) := (congrFun qe311 3).trans s3_e310
      have s4_e311 : e311 4 = .pointer (some ⟨g3, 0, none⟩) := (congrFun qe311 4).trans s4_e310
      have s5_e311 : e311 5 = .pointer (some ⟨g4, 0, none⟩) := (congrFun qe311 5).trans s5_e310
      obtain ⟨x10, qx10, h⟩ := lt_e h
      have s6_e311 : e311 6 = .int .u64 x10 := (congrFun qe311 6).trans (congrArg (Value.int .u64) qx10.symm)
      have s8_e311 : e311 8 = .int .i64 y7 := (congrFun qe311 8).trans s8_e310
      clear qe311
      refine wregion (.tp 0 (.tp 1 (.done))) [] rfl (by kernel_rfl) (by kernel_rfl) ?_
      refine k_bin (X := .int .i64 y7) (Y := .int .i64 1) rfl s8_e311 rfl rfl ?_
      refine k_move (v := .int .i64 (IntKind.i64.wrap (y7 + 1))) rfl rfl ?_
      refine k_end ?_; intro e312 qe312
      have s2_e312 : e312 2 = .pointer (some ⟨g1, 0, none⟩) := (congrFun qe312 2).trans s2_e311
      have s3_e312 : e312 3 = .pointer (some ⟨g2, 0, none⟩) := (congrFun qe312 3).trans s3_e311
      have s4_e312 : e312 4 = .pointer (some ⟨g3, 0, none⟩) := (congrFun qe312 4).trans s4_e311
      have s5_e312 : e312 5 = .pointer (some ⟨g4, 0, none⟩) := (congrFun qe312 5).trans s5_e311
      have s6_e312 : e312 6 = .int .u64 x10 := (congrFun qe312 6).trans s6_e311
      obtain ⟨x11, qx11, h⟩ := lt_e h
      have s8_e312 : e312 8 = .int .i64 x11 := (congrFun qe312 8).trans (congrArg (Value.int .i64) qx11.symm)
      clear qe312
      exact ih (y5.set (y7 : Int).toNat (((a0.getD (y7 : Int).toNat 0) - (a1.getD (y7 : Int).toNat 0) - y6) % 18446744073709551616)) x10 x11 _ _ (List.length_set.trans ly5) s2_e312 s3_e312 s4_e312 s5_e312 s6_e312 s8_e312 (hp.drop (L' := [⟨g1, 0, ints .u64 a0⟩, ⟨g2, 0, ints .u64 a1⟩, ⟨g3, 0, ints .u64 (List.replicate 4 (0 : Int))⟩, ⟨g4, 0, ints .u64 (y5.set (y7 : Int).toNat (((a0.getD (y7 : Int).toNat 0) - (a1.getD (y7 : Int).toNat 0) - y6) % 18446744073709551616))⟩]) (List.Sublist.refl _)) h
    · replace h := br_f hb h
      refine wexit rfl ?_
      exact hQ0 _ _ y5 ly5 s4_e309 s5_e309 (hp.drop (L' := [⟨g1, 0, ints .u64 a0⟩, ⟨g2, 0, ints .u64 a1⟩, ⟨g3, 0, ints .u64 (List.replicate 4 (0 : Int))⟩, ⟨g4, 0, ints .u64 y5⟩]) (List.Sublist.refl _)) (Option.some.inj h).symm
theorem postilionref04_less_ok (k : Nat) (a0 : List Int) (a1 : List Int) (la0 : a0.length = 4) (la1 : a1.length = 4) (w0 : World) (hp : Hp w0 [] w0 [] []) {r : List Int} (h : postilionref04_less.f k a0 a1 = some r) :
    Calls Try.prog 53 [.agg (ints .u64 a0).toArray, .agg (ints .u64 a1).toArray].toArray w0 fun x w' => ∃ v, x = .returned v ∧ v = .agg (ints .u64 r).toArray ∧ r.length = 4 ∧ Hp w0 [] w' [] [] := by
  refine calls_in Try.func53 rfl (Nat.le_of_ble_eq_true (by kernel_rfl)) (by kernel_rfl) ?_
  intro e0 qe0
  have s0_e0 : e0 0 = .agg (ints .u64 a0).toArray := congrFun qe0 0
  have s1_e0 : e0 1 = .agg (ints .u64 a1).toArray := congrFun qe0 1
  clear qe0
  unfold postilionref04_less.f at h
  refine wseq rfl ?_
  refine wregion (.ef 0 (.ef 1 (.ef 2 (.done)))) [] rfl (by kernel_rfl) (by kernel_rfl) ?_
  refine k_box (v := .agg (ints .u64 a0).toArray) (ints .u64 a0) rfl s0_e0 rfl hp ?_
  intro g1 w hbg1 hp
  refine k_box (v := .agg (ints .u64 a1).toArray) (ints .u64 a1) rfl s1_e0 rfl hp ?_
  intro g2 w hbg2 hp
  refine k_alloc (ints .u64 (List.replicate 4 (0 : Int))) rfl (by kernel_rfl) hp ?_
  intro g3 w hbg3 hp
  refine k_end ?_; intro e305 qe305
  have s2_e305 : e305 2 = .pointer (some ⟨g1, 0, none⟩) := congrFun qe305 2
  have s3_e305 : e305 3 = .pointer (some ⟨g2, 0, none⟩) := congrFun qe305 3
  have s4_e305 : e305 4 = .pointer (some ⟨g3, 0, none⟩) := congrFun qe305 4
  clear qe305
  refine wseq rfl ?_
  refine wregion (.ef 0 (.done)) [] rfl (by kernel_rfl) (by kernel_rfl) ?_
  refine k_alloc (ints .u64 (List.replicate 4 (0 : Int))) rfl (by kernel_rfl) hp ?_
  intro g4 w hbg4 hp
  refine k_end ?_; intro e306 qe306
  have s2_e306 : e306 2 = .pointer (some ⟨g1, 0, none⟩) := (congrFun qe306 2).trans s2_e305
  have s3_e306 : e306 3 = .pointer (some ⟨g2, 0, none⟩) := (congrFun qe306 3).trans s3_e305
  have s4_e306 : e306 4 = .pointer (some ⟨g3, 0, none⟩) := (congrFun qe306 4).trans s4_e305
  have s5_e306 : e306 5 = .pointer (some ⟨g4, 0, none⟩) := congrFun qe306 5
  clear qe306
  refine wseq rfl ?_
  refine wregion (.tp 0 (.done)) [] rfl (by kernel_rfl) (by kernel_rfl) ?_
  refine k_assign (v := .int .u64 0) rfl rfl ?_
  refine k_end ?_; intro e307 qe307
  have s2_e307 : e307 2 = .pointer (some ⟨g1, 0, none⟩) := (congrFun qe307 2).trans s2_e306
  have s3_e307 : e307 3 = .pointer (some ⟨g2, 0, none⟩) := (congrFun qe307 3).trans s3_e306
  have s4_e307 : e307 4 = .pointer (some ⟨g3, 0, none⟩) := (congrFun qe307 4).trans s4_e306
  have s5_e307 : e307 5 = .pointer (some ⟨g4, 0, none⟩) := (congrFun qe307 5).trans s5_e306
  have s6_e307 : e307 6 = .int .u64 0 := congrFun qe307 6
  clear qe307
  refine wseq rfl ?_
  refine wseq rfl ?_
  refine wregion (.tp 0 (.done)) [] rfl (by kernel_rfl) (by kernel_rfl) ?_
  refine k_move (v := .int .i64 0) rfl rfl ?_
  refine k_end ?_; intro e308 qe308
  have s2_e308 : e308 2 = .pointer (some ⟨g1, 0, none⟩) := (congrFun qe308 2).trans s2_e307
  have s3_e308 : e308 3 = .pointer (some ⟨g2, 0, none⟩) := (congrFun qe308 3).trans s3_e307
  have s4_e308 : e308 4 = .pointer (some ⟨g3, 0, none⟩) := (congrFun qe308 4).trans s4_e307
  have s5_e308 : e308 5 = .pointer (some ⟨g4, 0, none⟩) := (congrFun qe308 5).trans s5_e307
  have s6_e308 : e308 6 = .int .u64 0 := (congrFun qe308 6).trans s6_e307
  have s8_e308 : e308 8 = .int .i64 0 := congrFun qe308 8
  clear qe308
  refine wblock rfl ?_
  obtain ⟨r12, qr12, h⟩ := bd_e h
  refine wloop k rfl (postilionref04_less.p1_ok g1 g2 g3 g4 a0 a1 la0 la1 ?hq0 k (List.replicate 4 (0 : Int)) 0 0 e308 _ List.length_replicate s2_e308 s3_e308 s4_e308 s5_e308 s6_e308 s8_e308 hp qr12)
  case hq0 =>
    intro e313 w m13 lm13 s4_e313 s5_e313 hp qq
    rw [qq] at h; clear qq
    refine wseq rfl ?_
    refine wregion (.tk 0 (.ef 1 (.done))) [1] rfl (by kernel_rfl) (by kernel_rfl) ?_
    refine k_loadA (n := 4) (xs := ints .u64 m13) 0 rfl (by kernel_rfl) (by kernel_rfl) s5_e313 (hp.get (j := 3) rfl) rfl rfl ((ints_length _ _).trans lm13) (fun m v hm => by rw [Nat.zero_add]; exact hm) ?_
    refine k_storeA (v := .agg (ints .u64 m13).toArray) 2 0 (r := ⟨g3, 0, ints .u64 (List.replicate 4 (0 : Int))⟩) (ints .u64 m13) (ints .u64 m13) rfl (n := 4) (by kernel_rfl) s4_e313 rfl rfl ((ints_length _ _).trans lm13) (ints_one _ _) hp rfl rfl rfl (Nat.le_of_eq ((Nat.zero_add _).trans ((ints_length _ _).trans List.length_replicate).symm)) (setMany_all _ _ (((ints_length _ _).trans lm13).trans ((ints_length _ _).trans List.length_replicate).symm)) (by decide) ?_; intro w hp
    refine k_end ?_; intro e314 qe314
    have s4_e314 : e314 4 = .pointer (some ⟨g3, 0, none⟩) := (congrFun qe314 4).trans s4_e313
    clear qe314
    refine wret rfl ?_
    have hr : r = m13 := (Option.some.inj h).symm
    show RetP _ _ _ _ _
    rw [hr]
    exact ret_i [.agg (ints .u64 m13).toArray] (res_cell s4_e314 (loadVar_agg (by kernel_rfl) (by kernel_rfl) ((ints_length _ _).trans lm13) (hp.get (j := 2) rfl) rfl rfl rfl) res_nil) ⟨rfl, lm13, hp.none⟩
/-! 52 postilion/postilionref04.Least -/
theorem postilionref04_Least.p1_ok {w0 : World} {Ws : List Wr} {Q : Exit → Env → World → Prop} (g1 g2 : Nat)   {r : List Int} (hQ0 : ∀ (e' : Env) (w' : World) (z0 : List Int), z0.length = 4 → e' 1 = .pointer (some ⟨g1, 0, none⟩) → e' 2 = .pointer (some ⟨g2, 0, none⟩) → Hp w0 Ws w' [⟨g1, 0, ints .u64 z0⟩, ⟨g2, 0, ints .u64 (List.replicate 4 (0 : Int))⟩] [] → r = (z0) → Q (.exit 0) e' w') : ∀ (k : Nat), ∀ (y3 : List Int) (e : Env) (w : World) (ly3 : y3.length = 4) (s1_e : e 1 = .pointer (some ⟨g1, 0, none⟩)) (s2_e : e 2 = .pointer (some ⟨g2, 0, none⟩)) (hp : Hp w0 Ws w [⟨g1, 0, ints .u64 y3⟩, ⟨g2, 0, ints .u64 (List.replicate 4 (0 : Int))⟩] []) (h : postilionref04_Least.p1 k y3 = some r), Lp Try.prog Try.f52.ntmps (at_ (fbody Try.f52) [1, 0, 0, 0]) Q k e w := by
  intro k
  induction k with
  | zero => intro y3 e w ly3 s1_e s2_e hp h; cases h
  | succ k ih =>
    intro y3 e w ly3 s1_e s2_e hp h
    unfold postilionref04_Least.p1 at h
    show Wp _ _ _ _ _ _
    refine wseq rfl ?_
    refine wseq rfl ?_
    refine wregion_m (.tk 0 (.ef 1 (.ef 2 (.tp 3 (.done))))) [] [(0, 0, 0), (0, 15, 15), (3, 15, 15), (4, 4, 15)] rfl (by kernel_rfl) (by kernel_rfl) (Nat.le_of_ble_eq_true (by kernel_rfl)) (by kernel_rfl) (by kernel_rfl) ?_
    have hp := hp.drew
    refine k_loadA (n := 4) (xs := ints .u64 y3) 0 rfl (by kernel_rfl) (by kernel_rfl) s1_e (hp.get (j := 0) rfl) rfl rfl ((ints_length _ _).trans ly3) (fun m v hm => by rw [Nat.zero_add]; exact hm) ?_
    obtain ⟨r4, qr4, h⟩ := bd_e h
    refine k_call [] rfl (by kernel_rfl) (args0 ) (postilionref04_p_ok   _ (hp.toR (fun _ h => by cases h)) qr4) ?_
    rintro _ w' ⟨_, rfl, rfl, lr40, hpc⟩
    refine ⟨_, rfl, .inr (.of_below hpc.chg.to_below), ?_⟩; have hp := hp.below hpc.chg.to_below; clear hpc
    obtain ⟨r5, qr5, h⟩ := bd_e h
    refine k_call [.agg (ints .u64 y3).toArray, .agg (ints .u64 r4).toArray] rfl (by kernel_rfl) (args2 rfl rfl) (postilionref04_below_ok k y3 r4 ly3 lr40 _ (hp.toR (fun _ h => by cases h)) qr5) ?_
    rintro _ w' ⟨_, rfl, rfl, hpc⟩
    refine ⟨_, rfl, .inr (.of_below hpc.chg.to_below), ?_⟩; have hp := hp.below hpc.chg.to_below; clear hpc
    refine k_not (b := r5) rfl rfl ?_
    refine k_end ?_; intro e316 qe316
    have s1_e316 : e316 1 = .pointer (some ⟨g1, 0, none⟩) := (congrFun qe316 1).trans s1_e
    have s2_e316 : e316 2 = .pointer (some ⟨g2, 0, none⟩) := (congrFun qe316 2).trans s2_e
    have s6_e316 : e316 6 = .bool (!r5) := congrFun qe316 6
    clear qe316
    refine wcond (t := (!r5)) rfl (by decide) s6_e316 (fun hb => ?_) (fun hb => ?_)
    · replace h := br_t hb h
      refine wskip rfl ?_
      refine wblock rfl ?_
      refine wregion_m (.tk 0 (.ef 1 (.ef 2 (.ef 3 (.done))))) [3] [(0, 0, 0), (0, 15, 15), (3, 15, 15), (7, 15, 15)] rfl (by kernel_rfl) (by kernel_rfl) (Nat.le_of_ble_eq_true (by kernel_rfl)) (by kernel_rfl) (by kernel_rfl) ?_
      have hp := hp.drew
      refine k_loadA (n := 4) (xs := ints .u64 y3) 0 rfl (by kernel_rfl) (by kernel_rfl) s1_e316 (hp.get (j := 0) rfl) rfl rfl ((ints_length _ _).trans ly3) (fun m v hm => by rw [Nat.zero_add]; exact hm) ?_
      obtain ⟨r6, qr6, h⟩ := bd_e h
      refine k_call [] rfl (by kernel_rfl) (args0 ) (postilionref04_p_ok   _ (hp.toR (fun _ h => by cases h)) qr6) ?_
      rintro _ w' ⟨_, rfl, rfl, lr60, hpc⟩
      refine ⟨_, rfl, .inr (.of_below hpc.chg.to_below), ?_⟩; have hp := hp.below hpc.chg.to_below; clear hpc
      obtain ⟨r7, qr7, h⟩ := bd_e h
      refine k_call [.agg (ints .u64 y3).toArray, .agg (ints .u64 r6).toArray] rfl (by kernel_rfl) (args2 rfl rfl) (postilionref04_less_ok k y3 r6 ly3 lr60 _ (hp.toR (fun _ h => by cases h)) qr7) ?_
      rintro _ w' ⟨_, rfl, rfl, lr70, hpc⟩
      refine ⟨_, rfl, .inr (.of_below hpc.chg.to_below), ?_⟩; have hp := hp.below hpc.chg.to_below; clear hpc
      refine k_storeA (v := .agg (ints .u64 r7).toArray) 0 0 (r := ⟨g1, 0, ints .u64 y3⟩) (ints .u64 r7) (ints .u64 r7) rfl (n := 4) (by kernel_rfl) s1_e316 rfl rfl ((ints_length _ _).trans lr70) (ints_one _ _) hp rfl rfl rfl (Nat.le_of_eq ((Nat.zero_add _).trans ((ints_length _ _).trans ly3).symm)) (setMany_all _ _ (((ints_length _ _).trans lr70).trans ((ints_length _ _).trans ly3).symm)) (by decide) ?_; intro w hp
      refine k_end ?_; intro e317 qe317
      have s1_e317 : e317 1 = .pointer (some ⟨g1, 0, none⟩) := (congrFun qe317 1).trans s1_e316
      have s2_e317 : e317 2 = .pointer (some ⟨g2, 0, none⟩) := (congrFun qe317 2).trans s2_e316
      clear qe317
      exact ih r7 _ _ lr70 s1_e317 s2_e317 (hp.drop (L' := [⟨g1, 0, ints .u64 r7⟩, ⟨g2, 0, ints .u64 (List.replicate 4 (0 : Int))⟩]) (List.Sublist.refl _)) h
    · replace h := br_f hb h
      refine wexit rfl ?_
      exact hQ0 _ _ y3 ly3 s1_e316 s2_e316 (hp.drop (L' := [⟨g1, 0, ints .u64 y3⟩, ⟨g2, 0, ints .u64 (List.replicate 4 (0 : Int))⟩]) (List.Sublist.refl _)) (Option.some.inj h).symm
theorem postilionref04_Least_ok (k : Nat) (a0 : List Int) (la0 : a0.length = 4) (w0 : World) (hp : Hp w0 [] w0 [] []) {r : List Int} (h : postilionref04_Least.f k a0 = some r) :
    Calls Try.prog 52 [.agg (ints .u64 a0).toArray].toArray w0 fun x w' => ∃ v, x = .returned v ∧ v = .agg (ints .u64 r).toArray ∧ r.length = 4 ∧ Hp w0 [] w' [] [] := by
  refine calls_in Try.func52 rfl (Nat.le_of_ble_eq_true (by kernel_rfl)) (by kernel_rfl) ?_
  intro e0 qe0
  have s0_e0 : e0 0 = .agg (ints .u64 a0).toArray := congrFun qe0 0
  clear qe0
  unfold postilionref04_Least.f at h
  refine wseq rfl ?_
  refine wregion (.ef 0 (.ef 1 (.done))) [] rfl (by kernel_rfl) (by kernel_rfl) ?_
  refine k_box (v := .agg (ints .u64 a0).toArray) (ints .u64 a0) rfl s0_e0 rfl hp ?_
  intro g1 w hbg1 hp
  refine k_alloc (ints .u64 (List.replicate 4 (0 : Int))) rfl (by kernel_rfl) hp ?_
  intro g2 w hbg2 hp
  refine k_end ?_; intro e315 qe315
  have s1_e315 : e315 1 = .pointer (some ⟨g1, 0, none⟩) := congrFun qe315 1
  have s2_e315 : e315 2 = .pointer (some ⟨g2, 0, none⟩) := congrFun qe315 2
  clear qe315
  refine wseq rfl ?_
  refine wblock rfl ?_
  obtain ⟨r8, qr8, h⟩ := bd_e h
  refine wloop k rfl (postilionref04_Least.p1_ok g1 g2   ?hq0 k a0 e315 _ la0 s1_e315 s2_e315 hp qr8)
  case hq0 =>
    intro e318 w m9 lm9 s1_e318 s2_e318 hp qq
    rw [qq] at h; clear qq
    refine wseq rfl ?_
    refine wregion (.tk 0 (.ef 1 (.done))) [1] rfl (by kernel_rfl) (by kernel_rfl) ?_
    refine k_loadA (n := 4) (xs := ints .u64 m9) 0 rfl (by kernel_rfl) (by kernel_rfl) s1_e318 (hp.get (j := 0) rfl) rfl rfl ((ints_length _ _).trans lm9) (fun m v hm => by rw [Nat.zero_add]; exact hm) ?_
    refine k_storeA (v := .agg (ints .u64 m9).toArray) 1 0 (r := ⟨g2, 0, ints .u64 (List.replicate 4 (0 : Int))⟩) (ints .u64 m9) (ints .u64 m9) rfl (n := 4) (by kernel_rfl) s2_e318 rfl rfl ((ints_length _ _).trans lm9) (ints_one _ _) hp rfl rfl rfl (Nat.le_of_eq ((Nat.zero_add _).trans ((ints_length _ _).trans List.length_replicate).symm)) (setMany_all _ _ (((ints_length _ _).trans lm9).trans ((ints_length _ _).trans List.length_replicate).symm)) (by decide) ?_; intro w hp
    refine k_end ?_; intro e319 qe319
    have s2_e319 : e319 2 = .pointer (some ⟨g2, 0, none⟩) := (congrFun qe319 2).trans s2_e318
    clear qe319
    refine wret rfl ?_
    have hr : r = m9 := (Option.some.inj h).symm
    show RetP _ _ _ _ _
    rw [hr]
    exact ret_i [.agg (ints .u64 m9).toArray] (res_cell s2_e319 (loadVar_agg (by kernel_rfl) (by kernel_rfl) ((ints_length _ _).trans lm9) (hp.get (j := 1) rfl) rfl rfl rfl) res_nil) ⟨rfl, lm9, hp.none⟩
/-! 50 postilion/postilionref04.Same -/
theorem postilionref04_Same_ok (k : Nat) (a0 : List Int) (a1 : List Int) (la0 : a0.length = 4) (la1 : a1.length = 4) (w0 : World) (hp : Hp w0 [] w0 [] []) {r : Bool} (h : postilionref04_Same.f k a0 a1 = some r) :
    Calls Try.prog 50 [.agg (ints .u64 a0).toArray, .agg (ints .u64 a1).toArray].toArray w0 fun x w' => ∃ v, x = .returned v ∧ v = .bool r ∧ Hp w0 [] w' [] [] := by
  refine calls_in Try.func50 rfl (Nat.le_of_ble_eq_true (by kernel_rfl)) (by kernel_rfl) ?_
  intro e0 qe0
  have s0_e0 : e0 0 = .agg (ints .u64 a0).toArray := congrFun qe0 0
  have s1_e0 : e0 1 = .agg (ints .u64 a1).toArray := congrFun qe0 1
  clear qe0
  unfold postilionref04_Same.f at h
  refine wseq rfl ?_
  refine wregion (.ef 0 (.ef 1 (.tp 2 (.done)))) [] rfl (by kernel_rfl) (by kernel_rfl) ?_
  refine k_box (v := .agg (ints .u64 a0).toArray) (ints .u64 a0) rfl s0_e0 rfl hp ?_
  intro g1 w hbg1 hp
  refine k_box (v := .agg (ints .u64 a1).toArray) (ints .u64 a1) rfl s1_e0 rfl hp ?_
  intro g2 w hbg2 hp
  refine k_assign (v := .bool false) rfl rfl ?_
  refine k_end ?_; intro e320 qe320
  have s2_e320 : e320 2 = .pointer (some ⟨g1, 0, none⟩) := congrFun qe320 2
  have s3_e320 : e320 3 = .pointer (some ⟨g2, 0, none⟩) := congrFun qe320 3
  clear qe320
  refine wseq rfl ?_
  refine wregion_m (.tk 0 (.tk 2 (.ef 1 (.ef 3 (.tp 4 (.tp 5 (.done))))))) [] [(0, 0, 0), (1, 63, 63), (0, 0, 0), (6, 63, 63), (10, 10, 63), (31, 16, 63)] rfl (by kernel_rfl) (by kernel_rfl) (Nat.le_of_ble_eq_true (by kernel_rfl)) (by kernel_rfl) (by kernel_rfl) ?_
  have hp := hp.drew
  refine k_loadA (n := 4) (xs := ints .u64 a0) 0 rfl (by kernel_rfl) (by kernel_rfl) s2_e320 (hp.get (j := 0) rfl) rfl rfl ((ints_length _ _).trans la0) (fun m v hm => by rw [Nat.zero_add]; exact hm) ?_
  refine k_loadA (n := 4) (xs := ints .u64 a1) 0 rfl (by kernel_rfl) (by kernel_rfl) s3_e320 (hp.get (j := 1) rfl) rfl rfl ((ints_length _ _).trans la1) (fun m v hm => by rw [Nat.zero_add]; exact hm) ?_
  obtain ⟨r3, qr3, h⟩ := bd_e h
  refine k_call [.agg (ints .u64 a0).toArray] rfl (by kernel_rfl) (args1 rfl) (postilionref04_Least_ok k a0 la0 _ (hp.toR (fun _ h => by cases h)) qr3) ?_
  rintro _ w' ⟨_, rfl, rfl, lr30, hpc⟩
  refine ⟨_, rfl, .inr (.of_below hpc.chg.to_below), ?_⟩; have hp := hp.below hpc.chg.to_below; clear hpc
  obtain ⟨r4, qr4, h⟩ := bd_e h
  refine k_call [.agg (ints .u64 a1).toArray] rfl (by kernel_rfl) (args1 rfl) (postilionref04_Least_ok k a1 la1 _ (hp.toR (fun _ h => by cases h)) qr4) ?_
  rintro _ w' ⟨_, rfl, rfl, lr40, hpc⟩
  refine ⟨_, rfl, .inr (.of_below hpc.chg.to_below), ?_⟩; have hp := hp.below hpc.chg.to_below; clear hpc
  refine k_eqI (k := .u64) (l := r3) (l' := r4) rfl Try.underlying42 Try.underlying32 (by kernel_rfl) (by kernel_rfl) rfl rfl lr30 lr40 ?_
  refine k_assign (v := .bool (r3 == r4)) rfl rfl ?_
  refine k_end ?_; intro e321 qe321
  have s4_e321 : e321 4 = .bool (r3 == r4) := congrFun qe321 4
  clear qe321
  refine wret rfl ?_
  have hr : r = (r3 == r4) := (Option.some.inj h).symm
  show RetP _ _ _ _ _
  rw [hr]
  exact ret_i [.bool (r3 == r4)] (res_tmp s4_e321 res_nil) ⟨rfl, hp.none⟩
/-! 51 postilion/postilionref04.I -/
theorem postilionref04_I_ok  (w0 : World) (hp : Hp w0 [] w0 [] []) {r : List Int} (h : postilionref04_I.f  = some r) :
    Calls Try.prog 51 [].toArray w0 fun x w' => ∃ v, x = .returned v ∧ v = .agg (ints .u64 r).toArray ∧ r.length = 4 ∧ Hp w0 [] w' [] [] := by
  refine calls_in Try.func51 rfl (Nat.le_of_ble_eq_true (by kernel_rfl)) (by kernel_rfl) ?_
  intro e0 qe0
  clear qe0
  unfold postilionref04_I.f at h
  refine wseq rfl ?_
  refine wregion (.ef 0 (.done)) [] rfl (by kernel_rfl) (by kernel_rfl) ?_
  refine k_alloc (ints .u64 (List.replicate 4 (0 : Int))) rfl (by kernel_rfl) hp ?_
  intro g1 w hbg1 hp
  refine k_end ?_; intro e322 qe322
  have s0_e322 : e322 0 = .pointer (some ⟨g1, 0, none⟩) := congrFun qe322 0
  clear qe322
  refine wseq rfl ?_
  refine wregion (.tp 0 (.ef 1 (.done))) [1] rfl (by kernel_rfl) (by kernel_rfl) ?_
  refine k_build (v := .agg (ints .u64 [14190309331451158704, 3405592160176694392, 3120150775007532967, 3135389899092516619]).toArray) rfl (fun _ => by kernel_rfl) ?_
  refine k_storeA (v := .agg (ints .u64 [14190309331451158704, 3405592160176694392, 3120150775007532967, 3135389899092516619]).toArray) 0 0 (r := ⟨g1, 0, ints .u64 (List.replicate 4 (0 : Int))⟩) (ints .u64 [14190309331451158704, 3405592160176694392, 3120150775007532967, 3135389899092516619]) (ints .u64 [14190309331451158704, 3405592160176694392, 3120150775007532967, 3135389899092516619]) rfl (n := 4) (by kernel_rfl) s0_e322 rfl rfl ((ints_length _ _).trans (rfl : List.length ([14190309331451158704, 3405592160176694392, 3120150775007532967, 3135389899092516619] : List Int) = 4)) (ints_one _ _) hp rfl rfl rfl (Nat.le_of_eq ((Nat.zero_add _).trans ((ints_length _ _).trans List.length_replicate).symm)) (setMany_all _ _ (((ints_length _ _).trans (rfl : List.length ([14190309331451158704, 3405592160176694392, 3120150775007532967, 3135389899092516619] : List Int) = 4)).trans ((ints_length _ _).trans List.length_replicate).symm)) (by decide) ?_; intro w hp
  refine k_end ?_; intro e323 qe323
  have s0_e323 : e323 0 = .pointer (some ⟨g1, 0, none⟩) := (congrFun qe323 0).trans s0_e322
  clear qe323
  refine wret rfl ?_
  have hr : r = [14190309331451158704, 3405592160176694392, 3120150775007532967, 3135389899092516619] := (Option.some.inj h).symm
  show RetP _ _ _ _ _
  rw [hr]
  exact ret_i [.agg (ints .u64 [14190309331451158704, 3405592160176694392, 3120150775007532967, 3135389899092516619]).toArray] (res_cell s0_e323 (loadVar_agg (by kernel_rfl) (by kernel_rfl) ((ints_length _ _).trans (rfl : List.length ([14190309331451158704, 3405592160176694392, 3120150775007532967, 3135389899092516619] : List Int) = 4)) (hp.get (j := 0) rfl) rfl rfl rfl) res_nil) ⟨rfl, (rfl : List.length ([14190309331451158704, 3405592160176694392, 3120150775007532967, 3135389899092516619] : List Int) = 4), hp.none⟩
/-! 29 postilion/postilionref04.Root -/
theorem postilionref04_Root.p1_ok {w0 : World} {Ws : List Wr} {Q : Exit → Env → World → Prop} (k : Nat) (g1 g2 g4 : Nat) (r6 : Bool) (a0 : List Int) (r3 : List Int) (l_a0 : a0.length = 4) (l_r3 : r3.length = 4) {r : List Int} (hQ0 : ∀ (e' : Env) (w' : World) (z0 : List Int), z0.length = 4 → e' 1 = .pointer (some ⟨g1, 0, none⟩) → e' 2 = .pointer (some ⟨g2, 0, none⟩) → e' 4 = .pointer (some ⟨g4, 0, none⟩) → Hp w0 Ws w' [⟨g1, 0, ints .u64 a0⟩, ⟨g2, 0, ints .u64 (List.replicate 4 (0 : Int))⟩, ⟨g4, 0, ints .u64 z0⟩] [] → r = (z0) → Q .normal e' w') (e : Env) (w : World) (s1_e : e 1 = .pointer (some ⟨g1, 0, none⟩)) (s2_e : e 2 = .pointer (some ⟨g2, 0, none⟩)) (s4_e : e 4 = .pointer (some ⟨g4, 0, none⟩)) (s13_e : e 13 = .bool (!r6)) (hp : Hp w0 Ws w [⟨g1, 0, ints .u64 a0⟩, ⟨g2, 0, ints .u64 (List.replicate 4 (0 : Int))⟩, ⟨g4, 0, ints .u64 r3⟩] []) (h : postilionref04_Root.p1 k r6 r3 = some r) : Wp Try.prog Try.f29.ntmps (at_ (fbody Try.f29) [1, 1, 0, 1]) Q e w := by
  unfold postilionref04_Root.p1 at h
  refine wcond (t := (!r6)) rfl (by decide) s13_e (fun hb => ?_) (fun hb => ?_)
  · replace h := br_t hb h
    refine wregion_m (.tk 0 (.ef 1 (.ef 2 (.ef 3 (.done))))) [3] [(0, 0, 0), (0, 15, 15), (3, 15, 15), (7, 15, 15)] rfl (by kernel_rfl) (by kernel_rfl) (Nat.le_of_ble_eq_true (by kernel_rfl)) (by kernel_rfl) (by kernel_rfl) ?_
    have hp := hp.drew
    refine k_loadA (n := 4) (xs := ints .u64 r3) 0 rfl (by kernel_rfl) (by kernel_rfl) s4_e (hp.get (j := 2) rfl) rfl rfl ((ints_length _ _).trans l_r3) (fun m v hm => by rw [Nat.zero_add]; exact hm) ?_
    obtain ⟨r7, qr7, h⟩ := bd_e h
    refine k_call [] rfl (by kernel_rfl) (args0 ) (postilionref04_I_ok   _ (hp.toR (fun _ h => by cases h)) qr7) ?_
    rintro _ w' ⟨_, rfl, rfl, lr70, hpc⟩
    refine ⟨_, rfl, .inr (.of_below hpc.chg.to_below), ?_⟩; have hp := hp.below hpc.chg.to_below; clear hpc
    obtain ⟨r8, qr8, h⟩ := bd_e h
    refine k_call [.agg (ints .u64 r3).toArray, .agg (ints .u64 r7).toArray] rfl (by kernel_rfl) (args2 rfl rfl) (postilionref04_Times_ok k r3 r7 l_r3 lr70 _ (hp.toR (fun _ h => by cases h)) qr8) ?_
    rintro _ w' ⟨_, rfl, rfl, lr80, hpc⟩
    refine ⟨_, rfl, .inr (.of_below hpc.chg.to_below), ?_⟩; have hp := hp.below hpc.chg.to_below; clear hpc
    refine k_storeA (v := .agg (ints .u64 r8).toArray) 2 0 (r := ⟨g4, 0, ints .u64 r3⟩) (ints .u64 r8) (ints .u64 r8) rfl (n := 4) (by kernel_rfl) s4_e rfl rfl ((ints_length _ _).trans lr80) (ints_one _ _) hp rfl rfl rfl (Nat.le_of_eq ((Nat.zero_add _).trans ((ints_length _ _).trans l_r3).symm)) (setMany_all _ _ (((ints_length _ _).trans lr80).trans ((ints_length _ _).trans l_r3).symm)) (by decide) ?_; intro w hp
    refine k_end ?_; intro e327 qe327
    have s1_e327 : e327 1 = .pointer (some ⟨g1, 0, none⟩) := (congrFun qe327 1).trans s1_e
    have s2_e327 : e327 2 = .pointer (some ⟨g2, 0, none⟩) := (congrFun qe327 2).trans s2_e
    have s4_e327 : e327 4 = .pointer (some ⟨g4, 0, none⟩) := (congrFun qe327 4).trans s4_e
    clear qe327
    exact hQ0 _ _ r8 lr80 s1_e327 s2_e327 s4_e327 (hp.drop (L' := [⟨g1, 0, ints .u64 a0⟩, ⟨g2, 0, ints .u64 (List.replicate 4 (0 : Int))⟩, ⟨g4, 0, ints .u64 r8⟩]) (List.Sublist.refl _)) (Option.some.inj h).symm
  · replace h := br_f hb h
    refine wskip rfl ?_
    exact hQ0 _ _ r3 l_r3 s1_e s2_e s4_e (hp.drop (L' := [⟨g1, 0, ints .u64 a0⟩, ⟨g2, 0, ints .u64 (List.replicate 4 (0 : Int))⟩, ⟨g4, 0, ints .u64 r3⟩]) (List.Sublist.refl _)) (Option.some.inj h).symm
theorem postilionref04_Root_ok (k : Nat) (a0 : List Int) (la0 : a0.length = 4) (w0 : World) (hp : Hp w0 [] w0 [] []) {r : List Int × Bool} (h : postilionref04_Root.f k a0 = some r) :
    Calls Try.prog 29 [.agg (ints .u64 a0).toArray].toArray w0 fun x w' => ∃ v, x = .returned v ∧ v = .tuple #[.agg (ints .u64 r.1).toArray, .bool r.2] ∧ r.1.length = 4 ∧ Hp w0 [] w' [] [] := by
  refine calls_in Try.func29 rfl (Nat.le_of_ble_eq_true (by kernel_rfl)) (by kernel_rfl) ?_
  intro e0 qe0
  have s0_e0 : e0 0 = .agg (ints .u64 a0).toArray := congrFun qe0 0
  clear qe0
  unfold postilionref04_Root.f at h
  refine wseq rfl ?_
  refine wregion (.ef 0 (.ef 1 (.tp 2 (.done)))) [] rfl (by kernel_rfl) (by kernel_rfl) ?_
  refine k_box (v := .agg (ints .u64 a0).toArray) (ints .u64 a0) rfl s0_e0 rfl hp ?_
  intro g1 w hbg1 hp
  refine k_alloc (ints .u64 (List.replicate 4 (0 : Int))) rfl (by kernel_rfl) hp ?_
  intro g2 w hbg2 hp
  refine k_assign (v := .bool false) rfl rfl ?_
  refine k_end ?_; intro e324 qe324
  have s1_e324 : e324 1 = .pointer (some ⟨g1, 0, none⟩) := congrFun qe324 1
  have s2_e324 : e324 2 = .pointer (some ⟨g2, 0, none⟩) := congrFun qe324 2
  clear qe324
  refine wseq rfl ?_
  refine wregion (.tk 0 (.tp 1 (.ef 2 (.ef 3 (.ef 4 (.done)))))) [4] rfl (by kernel_rfl) (by kernel_rfl) ?_
  refine k_loadA (n := 4) (xs := ints .u64 a0) 0 rfl (by kernel_rfl) (by kernel_rfl) s1_e324 (hp.get (j := 0) rfl) rfl rfl ((ints_length _ _).trans la0) (fun m v hm => by rw [Nat.zero_add]; exact hm) ?_
  refine k_build (v := .agg (ints .u64 [18446744073709551614, 18446744073709551615, 18446744073709551615, 1152921504606846975]).toArray) rfl (fun _ => by kernel_rfl) ?_
  obtain ⟨r3, qr3, h⟩ := bd_e h
  refine k_call [.agg (ints .u64 a0).toArray, .agg (ints .u64 [18446744073709551614, 18446744073709551615, 18446744073709551615, 1152921504606846975]).toArray] rfl (by kernel_rfl) (args2 rfl rfl) (postilionref04_Power_ok k a0 [18446744073709551614, 18446744073709551615, 18446744073709551615, 1152921504606846975] la0 (rfl : List.length ([18446744073709551614, 18446744073709551615, 18446744073709551615, 1152921504606846975] : List Int) = 4) _ (hp.toR (fun _ h => by cases h)) qr3) ?_
  rintro _ w' ⟨_, rfl, rfl, lr30, hpc⟩
  refine ⟨_, rfl, .inr (.of_below hpc.chg.to_below), ?_⟩; have hp := hp.below hpc.chg.to_below; clear hpc
  refine k_alloc (ints .u64 (List.replicate 4 (0 : Int))) rfl (by kernel_rfl) hp ?_
  intro g4 w hbg4 hp
  refine k_storeA (v := .agg (ints .u64 r3).toArray) 2 0 (r := ⟨g4, 0, ints .u64 (List.replicate 4 (0 : Int))⟩) (ints .u64 r3) (ints .u64 r3) rfl (n := 4) (by kernel_rfl) rfl rfl rfl ((ints_length _ _).trans lr30) (ints_one _ _) hp rfl rfl rfl (Nat.le_of_eq ((Nat.zero_add _).trans ((ints_length _ _).trans List.length_replicate).symm)) (setMany_all _ _ (((ints_length _ _).trans lr30).trans ((ints_length _ _).trans List.length_replicate).symm)) (by decide) ?_; intro w hp
  refine k_end ?_; intro e325 qe325
  have s1_e325 : e325 1 = .pointer (some ⟨g1, 0, none⟩) := (congrFun qe325 1).trans s1_e324
  have s2_e325 : e325 2 = .pointer (some ⟨g2, 0, none⟩) := (congrFun qe325 2).trans s2_e324
  have s4_e325 : e325 4 = .pointer (some ⟨g4, 0, none⟩) := congrFun qe325 4
  clear qe325
  refine wseq rfl ?_
  refine wseq rfl ?_
  refine wregion_m (.tk 0 (.tk 1 (.tk 3 (.ef 2 (.ef 4 (.tp 5 (.done))))))) [] [(0, 0, 0), (0, 0, 0), (3, 63, 63), (0, 0, 0), (12, 63, 63), (16, 16, 63)] rfl (by kernel_rfl) (by kernel_rfl) (Nat.le_of_ble_eq_true (by kernel_rfl)) (by kernel_rfl) (by kernel_rfl) ?_
  have hp := hp.drew
  refine k_loadA (n := 4) (xs := ints .u64 r3) 0 rfl (by kernel_rfl) (by kernel_rfl) s4_e325 (hp.get (j := 2) rfl) rfl rfl ((ints_length _ _).trans lr30) (fun m v hm => by rw [Nat.zero_add]; exact hm) ?_
  refine k_loadA (n := 4) (xs := ints .u64 r3) 0 rfl (by kernel_rfl) (by kernel_rfl) s4_e325 (hp.get (j := 2) rfl) rfl rfl ((ints_length _ _).trans lr30) (fun m v hm => by rw [Nat.zero_add]; exact hm) ?_
  refine k_loadA (n := 4) (xs := ints .u64 a0) 0 rfl (by kernel_rfl) (by kernel_rfl) s1_e325 (hp.get (j := 0) rfl) rfl rfl ((ints_length _ _).trans la0) (fun m v hm => by rw [Nat.zero_add]; exact hm) ?_
  obtain ⟨r5, qr5, h⟩ := bd_e h
  refine k_call [.agg (ints .u64 r3).toArray, .agg (ints .u64 r3).toArray] rfl (by kernel_rfl) (args2 rfl rfl) (postilionref04_Times_ok k r3 r3 lr30 lr30 _ (hp.toR (fun _ h => by cases h)) qr5) ?_
  rintro _ w' ⟨_, rfl, rfl, lr50, hpc⟩
  refine ⟨_, rfl, .inr (.of_below hpc.chg.to_below), ?_⟩; have hp := hp.below hpc.chg.to_below; clear hpc
  obtain ⟨r6, qr6, h⟩ := bd_e h
  refine k_call [.agg (ints .u64 r5).toArray, .agg (ints .u64 a0).toArray] rfl (by kernel_rfl) (args2 rfl rfl) (postilionref04_Same_ok k r5 a0 lr50 la0 _ (hp.toR (fun _ h => by cases h)) qr6) ?_
  rintro _ w' ⟨_, rfl, rfl, hpc⟩
  refine ⟨_, rfl, .inr (.of_below hpc.chg.to_below), ?_⟩; have hp := hp.below hpc.chg.to_below; clear hpc
  refine k_not (b := r6) rfl rfl ?_
  refine k_end ?_; intro e326 qe326
  have s1_e326 : e326 1 = .pointer (some ⟨g1, 0, none⟩) := (congrFun qe326 1).trans s1_e325
  have s2_e326 : e326 2 = .pointer (some ⟨g2, 0, none⟩) := (congrFun qe326 2).trans s2_e325
  have s4_e326 : e326 4 = .pointer (some ⟨g4, 0, none⟩) := (congrFun qe326 4).trans s4_e325
  have s13_e326 : e326 13 = .bool (!r6) := congrFun qe326 13
  clear qe326
  obtain ⟨r9, qr9, h⟩ := bd_e h
  refine postilionref04_Root.p1_ok k g1 g2 g4 r6 a0 r3 la0 lr30 ?hq0 e326 _ s1_e326 s2_e326 s4_e326 s13_e326 hp qr9
  case hq0 =>
    intro e328 w m10 lm10 s1_e328 s2_e328 s4_e328 hp qq
    rw [qq] at h; clear qq
    refine wseq rfl ?_
    obtain ⟨r11, qr11, h⟩ := bd_e h
    obtain ⟨r12, qr12, h⟩ := bd_e h
    obtain ⟨r13, qr13, h⟩ := bd_e h
    refine wcut (fun e329 w2 => r11.length = 4 ∧ e329 2 = .pointer (some ⟨g2, 0, none⟩) ∧ e329 3 = .bool r13 ∧ Hp w0 [] w2 [⟨g1, 0, ints .u64 a0⟩, ⟨g2, 0, ints .u64 r11⟩, ⟨g4, 0, ints .u64 m10⟩] []) ?_ ?_
    rotate_left
    · refine wregion_m (.tk 0 (.alt (.ef 1 (.alt (.ef 2 (.alt (.ef 3 (.alt (.ef 4 (.ef 5 (.ef 6 (.ef 7 (.tp 8 (.done)))))) (.ef 5 (.ef 4 (.ef 6 (.ef 7 (.tp 8 (.done)))))))) (.ef 5 (.ef 3 (.ef 4 (.ef 6 (.ef 7 (.tp 8 (.done))))))))) (.alt (.ef 3 (.alt (.ef 2 (.alt (.ef 4 (.ef 5 (.ef 6 (.ef 7 (.tp 8 (.done)))))) (.ef 5 (.ef 4 (.ef 6 (.ef 7 (.tp 8 (.done)))))))) (.ef 5 (.ef 2 (.ef 4 (.ef 6 (.ef 7 (.tp 8 (.done))))))))) (.ef 5 (.alt (.ef 2 (.ef 3 (.ef 4 (.ef 6 (.ef 7 (.tp 8 (.done))))))) (.ef 3 (.ef 2 (.ef 4 (.ef 6 (.ef 7 (.tp 8 (.done)))))))))))) (.alt (.ef 2 (.alt (.ef 1 (.alt (.ef 3 (.alt (.ef 4 (.ef 5 (.ef 6 (.ef 7 (.tp 8 (.done)))))) (.ef 5 (.ef 4 (.ef 6 (.ef 7 (.tp 8 (.done)))))))) (.ef 5 (.ef 3 (.ef 4 (.ef 6 (.ef 7 (.tp 8 (.done))))))))) (.alt (.ef 3 (.alt (.ef 1 (.alt (.ef 4 (.ef 5 (.ef 6 (.ef 7 (.tp 8 (.done)))))) (.ef 5 (.ef 4 (.ef 6 (.ef 7 (.tp 8 (.done)))))))) (.ef 5 (.ef 1 (.ef 4 (.ef 6 (.ef 7 (.tp 8 (.done))))))))) (.ef 5 (.alt (.ef 1 (.ef 3 (.ef 4 (.ef 6 (.ef 7 (.tp 8 (.done))))))) (.ef 3 (.ef 1 (.ef 4 (.ef 6 (.ef 7 (.tp 8 (.done)))))))))))) (.alt (.ef 3 (.alt (.ef 1 (.alt (.ef 2 (.alt (.ef 4 (.ef 5 (.ef 6 (.ef 7 (.tp 8 (.done)))))) (.ef 5 (.ef 4 (.ef 6 (.ef 7 (.tp 8 (.done)))))))) (.ef 5 (.ef 2 (.ef 4 (.ef 6 (.ef 7 (.tp 8 (.done))))))))) (.alt (.ef 2 (.alt (.ef 1 (.alt (.ef 4 (.ef 5 (.ef 6 (.ef 7 (.tp 8 (.done)))))) (.ef 5 (.ef 4 (.ef 6 (.ef 7 (.tp 8 (.done)))))))) (.ef 5 (.ef 1 (.ef 4 (.ef 6 (.ef 7 (.tp 8 (.done))))))))) (.ef 5 (.alt (.ef 1 (.ef 2 (.ef 4 (.ef 6 (.ef 7 (.tp 8 (.done))))))) (.ef 2 (.ef 1 (.ef 4 (.ef 6 (.ef 7 (.tp 8 (.done)))))))))))) (.ef 5 (.alt (.ef 1 (.alt (.ef 2 (.ef 3 (.ef 4 (.ef 6 (.ef 7 (.tp 8 (.done))))))) (.ef 3 (.ef 2 (.ef 4 (.ef 6 (.ef 7 (.tp 8 (.done))))))))) (.alt (.ef 2 (.alt (.ef 1 (.ef 3 (.ef 4 (.ef 6 (.ef 7 (.tp 8 (.done))))))) (.ef 3 (.ef 1 (.ef 4 (.ef 6 (.ef 7 (.tp 8 (.done))))))))) (.ef 3 (.alt (.ef 1 (.ef 2 (.ef 4 (.ef 6 (.ef 7 (.tp 8 (.done))))))) (.ef 2 (.ef 1 (.ef 4 (.ef 6 (.ef 7 (.tp 8 (.done)))))))))))))))) [7] [(0, 0, 0), (1, 511, 511), (0, 511, 511), (0, 511, 511), (14, 511, 511), (0, 511, 511), (48, 511, 511), (67, 511, 511), (255, 64, 511)] rfl (by kernel_rfl) (by kernel_rfl) (Nat.le_of_ble_eq_true (by kernel_rfl)) (by kernel_rfl) (by kernel_rfl) ?_
      have hp := hp.drew
      refine k_join (p := (.ef 6 (.ef 7 (.tp 8 (.done))))) (A := fun ej wj => r11.length = 4 ∧ r12.length = 4 ∧ ej 2 = .pointer (some ⟨g2, 0, none⟩) ∧ ej 18 = .agg (ints .u64 r11).toArray ∧ ej 21 = .agg (ints .u64 r12).toArray ∧ ej 22 = .agg (ints .u64 a0).toArray ∧ Hp w0 [] wj [⟨g1, 0, ints .u64 a0⟩, ⟨g2, 0, ints .u64 (List.replicate 4 (0 : Int))⟩, ⟨g4, 0, ints .u64 m10⟩] []) ?_ (fun T330 => ?_)
      · rintro ej330 w ⟨lr110, lr120, f2_330, f18_330, f21_330, f22_330, hp⟩
        refine k_call [.agg (ints .u64 r12).toArray, .agg (ints .u64 a0).toArray] rfl (by kernel_rfl) (args2 f21_330 f22_330) (postilionref04_Same_ok k r12 a0 lr120 la0 _ (hp.toR (fun _ h => by cases h)) qr13) ?_
        rintro _ w' ⟨_, rfl, rfl, hpc⟩
        refine ⟨_, rfl, .inr (.of_below hpc.chg.to_below), ?_⟩; have hp := hp.below hpc.chg.to_below; clear hpc
        refine k_storeA (v := .agg (ints .u64 r11).toArray) 1 0 (r := ⟨g2, 0, ints .u64 (List.replicate 4 (0 : Int))⟩) (ints .u64 r11) (ints .u64 r11) rfl (n := 4) (by kernel_rfl) f2_330 f18_330 rfl ((ints_length _ _).trans lr110) (ints_one _ _) hp rfl rfl rfl (Nat.le_of_eq ((Nat.zero_add _).trans ((ints_length _ _).trans List.length_replicate).symm)) (setMany_all _ _ (((ints_length _ _).trans lr110).trans ((ints_length _ _).trans List.length_replicate).symm)) (by decide) ?_; intro w hp
        refine k_assign (v := .bool r13) rfl rfl ?_
        refine k_endI ?_; intro e329 qe329
        exact ⟨lr110, (congrFun qe329 2).trans f2_330, congrFun qe329 3, hp⟩
      refine k_join (p := (.ef 4 (.ef 6 (.ef 7 (.tp 8 (.done)))))) (A := fun ej wj => r11.length = 4 ∧ ej 2 = .pointer (some ⟨g2, 0, none⟩) ∧ ej 18 = .agg (ints .u64 r11).toArray ∧ ej 19 = .agg (ints .u64 m10).toArray ∧ ej 20 = .agg (ints .u64 m10).toArray ∧ ej 22 = .agg (ints .u64 a0).toArray ∧ Hp w0 [] wj [⟨g1, 0, ints .u64 a0⟩, ⟨g2, 0, ints .u64 (List.replicate 4 (0 : Int))⟩, ⟨g4, 0, ints .u64 m10⟩] []) ?_ (fun T331 => ?_)
      · rintro ej331 w ⟨lr110, f2_331, f18_331, f19_331, f20_331, f22_331, hp⟩
        refine k_call [.agg (ints .u64 m10).toArray, .agg (ints .u64 m10).toArray] rfl (by kernel_rfl) (args2 f19_331 f20_331) (postilionref04_Times_ok k m10 m10 lm10 lm10 _ (hp.toR (fun _ h => by cases h)) qr12) ?_
        rintro _ w' ⟨_, rfl, rfl, lr120, hpc⟩
        refine ⟨_, rfl, .inr (.of_below hpc.chg.to_below), ?_⟩; have hp := hp.below hpc.chg.to_below; clear hpc
        exact T330 _ _ ⟨lr110, lr120, f2_331, f18_331, rfl, f22_331, hp⟩
      refine k_join (p := (.alt (.ef 4 (.ef 5 (.ef 6 (.ef 7 (.tp 8 (.done)))))) (.ef 5 (.ef 4 (.ef 6 (.ef 7 (.tp 8 (.done)))))))) (A := fun ej wj => r11.length = 4 ∧ ej 1 = .pointer (some ⟨g1, 0, none⟩) ∧ ej 2 = .pointer (some ⟨g2, 0, none⟩) ∧ ej 18 = .agg (ints .u64 r11).toArray ∧ ej 19 = .agg (ints .u64 m10).toArray ∧ ej 20 = .agg (ints .u64 m10).toArray ∧ Hp w0 [] wj [⟨g1, 0, ints .u64 a0⟩, ⟨g2, 0, ints .u64 (List.replicate 4 (0 : Int))⟩, ⟨g4, 0, ints .u64 m10⟩] []) ?_ (fun T332 => ?_)
      · rintro ej332 w ⟨lr110, f1_332, f2_332, f18_332, f19_332, f20_332, hp⟩
        refine k_alt ?_ ?_
        ·
          refine k_call [.agg (ints .u64 m10).toArray, .agg (ints .u64 m10).toArray] rfl (by kernel_rfl) (args2 f19_332 f20_332) (postilionref04_Times_ok k m10 m10 lm10 lm10 _ (hp.toR (fun _ h => by cases h)) qr12) ?_
          rintro _ w' ⟨_, rfl, rfl, lr120, hpc⟩
          refine ⟨_, rfl, .inr (.of_below hpc.chg.to_below), ?_⟩; have hp := hp.below hpc.chg.to_below; clear hpc
          refine tk_ef ?_
          refine k_loadA (n := 4) (xs := ints .u64 a0) 0 rfl (by kernel_rfl) (by kernel_rfl) f1_332 (hp.get (j := 0) rfl) rfl rfl ((ints_length _ _).trans la0) (fun m v hm => by rw [Nat.zero_add]; exact hm) ?_
          exact T330 _ _ ⟨lr110, lr120, f2_332, f18_332, rfl, rfl, hp⟩
        refine tk_ef ?_
        refine k_loadA (n := 4) (xs := ints .u64 a0) 0 rfl (by kernel_rfl) (by kernel_rfl) f1_332 (hp.get (j := 0) rfl) rfl rfl ((ints_length _ _).trans la0) (fun m v hm => by rw [Nat.zero_add]; exact hm) ?_
        exact T331 _ _ ⟨lr110, f2_332, f18_332, f19_332, f20_332, rfl, hp⟩
      refine k_join (p := (.ef 3 (.ef 4 (.ef 6 (.ef 7 (.tp 8 (.done))))))) (A := fun ej wj => r11.length = 4 ∧ ej 2 = .pointer (some ⟨g2, 0, none⟩) ∧ ej 4 = .pointer (some ⟨g4, 0, none⟩) ∧ ej 18 = .agg (ints .u64 r11).toArray ∧ ej 19 = .agg (ints .u64 m10).toArray ∧ ej 22 = .agg (ints .u64 a0).toArray ∧ Hp w0 [] wj [⟨g1, 0, ints .u64 a0⟩, ⟨g2, 0, ints .u64 (List.replicate 4 (0 : Int))⟩, ⟨g4, 0, ints .u64 m10⟩] []) ?_ (fun T333 => ?_)
      · rintro ej333 w ⟨lr110, f2_333, f4_333, f18_333, f19_333, f22_333, hp⟩
        refine tk_ef ?_
        refine k_loadA (n := 4) (xs := ints .u64 m10) 0 rfl (by kernel_rfl) (by kernel_rfl) f4_333 (hp.get (j := 2) rfl) rfl rfl ((ints_length _ _).trans lm10) (fun m v hm => by rw [Nat.zero_add]; exact hm) ?_
        exact T331 _ _ ⟨lr110, f2_333, f18_333, f19_333, rfl, f22_333, hp⟩
      refine k_join (p := (.ef 2 (.ef 4 (.ef 6 (.ef 7 (.tp 8 (.done))))))) (A := fun ej wj => r11.length = 4 ∧ ej 2 = .pointer (some ⟨g2, 0, none⟩) ∧ ej 4 = .pointer (some ⟨g4, 0, none⟩) ∧ ej 18 = .agg (ints .u64 r11).toArray ∧ ej 20 = .agg (ints .u64 m10).toArray ∧ ej 22 = .agg (ints .u64 a0).toArray ∧ Hp w0 [] wj [⟨g1, 0, ints .u64 a0⟩, ⟨g2, 0, ints .u64 (List.replicate 4 (0 : Int))⟩, ⟨g4, 0, ints .u64 m10⟩] []) ?_ (fun T334 => ?_)
      · rintro ej334 w ⟨lr110, f2_334, f4_334, f18_334, f20_334, f22_334, hp⟩
        refine tk_ef ?_
        refine k_loadA (n := 4) (xs := ints .u64 m10) 0 rfl (by kernel_rfl) (by kernel_rfl) f4_334 (hp.get (j := 2) rfl) rfl rfl ((ints_length _ _).trans lm10) (fun m v hm => by rw [Nat.zero_add]; exact hm) ?_
        exact T331 _ _ ⟨lr110, f2_334, f18_334, rfl, f20_334, f22_334, hp⟩
      refine k_join (p := (.ef 1 (.ef 4 (.ef 6 (.ef 7 (.tp 8 (.done))))))) (A := fun ej wj => ej 2 = .pointer (some ⟨g2, 0, none⟩) ∧ ej 17 = .agg (ints .u64 m10).toArray ∧ ej 19 = .agg (ints .u64 m10).toArray ∧ ej 20 = .agg (ints .u64 m10).toArray ∧ ej 22 = .agg (ints .u64 a0).toArray ∧ Hp w0 [] wj [⟨g1, 0, ints .u64 a0⟩, ⟨g2, 0, ints .u64 (List.replicate 4 (0 : Int))⟩, ⟨g4, 0, ints .u64 m10⟩] []) ?_ (fun T335 => ?_)
      · rintro ej335 w ⟨f2_335, f17_335, f19_335, f20_335, f22_335, hp⟩
        refine k_call [.agg (ints .u64 m10).toArray] rfl (by kernel_rfl) (args1 f17_335) (postilionref04_Least_ok k m10 lm10 _ (hp.toR (fun _ h => by cases h)) qr11) ?_
        rintro _ w' ⟨_, rfl, rfl, lr110, hpc⟩
        refine ⟨_, rfl, .inr (.of_below hpc.chg.to_below), ?_⟩; have hp := hp.below hpc.chg.to_below; clear hpc
        exact T331 _ _ ⟨lr110, f2_335, rfl, f19_335, f20_335, f22_335, hp⟩
      refine k_join (p := (.alt (.ef 3 (.alt (.ef 4 (.ef 5 (.ef 6 (.ef 7 (.tp 8 (.done)))))) (.ef 5 (.ef 4 (.ef 6 (.ef 7 (.tp 8 (.done)))))))) (.ef 5 (.ef 3 (.ef 4 (.ef 6 (.ef 7 (.tp 8 (.done))))))))) (A := fun ej wj => r11.length = 4 ∧ ej 1 = .pointer (some ⟨g1, 0, none⟩) ∧ ej 2 = .pointer (some ⟨g2, 0, none⟩) ∧ ej 4 = .pointer (some ⟨g4, 0, none⟩) ∧ ej 18 = .agg (ints .u64 r11).toArray ∧ ej 19 = .agg (ints .u64 m10).toArray ∧ Hp w0 [] wj [⟨g1, 0, ints .u64 a0⟩, ⟨g2, 0, ints .u64 (List.replicate 4 (0 : Int))⟩, ⟨g4, 0, ints .u64 m10⟩] []) ?_ (fun T336 => ?_)
      · rintro ej336 w ⟨lr110, f1_336, f2_336, f4_336, f18_336, f19_336, hp⟩
        refine k_alt ?_ ?_
        ·
          refine tk_ef ?_
          refine k_loadA (n := 4) (xs := ints .u64 m10) 0 rfl (by kernel_rfl) (by kernel_rfl) f4_336 (hp.get (j := 2) rfl) rfl rfl ((ints_length _ _).trans lm10) (fun m v hm => by rw [Nat.zero_add]; exact hm) ?_
          exact T332 _ _ ⟨lr110, f1_336, f2_336, f18_336, f19_336, rfl, hp⟩
        refine tk_ef ?_
        refine k_loadA (n := 4) (xs := ints .u64 a0) 0 rfl (by kernel_rfl) (by kernel_rfl) f1_336 (hp.get (j := 0) rfl) rfl rfl ((ints_length _ _).trans la0) (fun m v hm => by rw [Nat.zero_add]; exact hm) ?_
        exact T333 _ _ ⟨lr110, f2_336, f4_336, f18_336, f19_336, rfl, hp⟩
      refine k_join (p := (.alt (.ef 2 (.alt (.ef 4 (.ef 5 (.ef 6 (.ef 7 (.tp 8 (.done)))))) (.ef 5 (.ef 4 (.ef 6 (.ef 7 (.tp 8 (.done)))))))) (.ef 5 (.ef 2 (.ef 4 (.ef 6 (.ef 7 (.tp 8 (.done))))))))) (A := fun ej wj => r11.length = 4 ∧ ej 1 = .pointer (some ⟨g1, 0, none⟩) ∧ ej 2 = .pointer (some ⟨g2, 0, none⟩) ∧ ej 4 = .pointer (some ⟨g4, 0, none⟩) ∧ ej 18 = .agg (ints .u64 r11).toArray ∧ ej 20 = .agg (ints .u64 m10).toArray ∧ Hp w0 [] wj [⟨g1, 0, ints .u64 a0⟩, ⟨g2, 0, ints .u64 (List.replicate 4 (0 : Int))⟩, ⟨g4, 0, ints .u64 m10⟩] []) ?_ (fun T337 => ?_)
      · rintro ej337 w ⟨lr110, f1_337, f2_337, f4_337, f18_337, f20_337, hp⟩
        refine k_alt ?_ ?_
        ·
          refine tk_ef ?_
          refine k_loadA (n := 4) (xs := ints .u64 m10) 0 rfl (by kernel_rfl) (by kernel_rfl) f4_337 (hp.get (j := 2) rfl) rfl rfl ((ints_length _ _).trans lm10) (fun m v hm => by rw [Nat.zero_add]; exact hm) ?_
          exact T332 _ _ ⟨lr110, f1_337, f2_337, f18_337, rfl, f20_337, hp⟩
        refine tk_ef ?_
        refine k_loadA (n := 4) (xs := ints .u64 a0) 0 rfl (by kernel_rfl) (by kernel_rfl) f1_337 (hp.get (j := 0) rfl) rfl rfl ((ints_length _ _).trans la0) (fun m v hm => by rw [Nat.zero_add]; exact hm) ?_
        exact T334 _ _ ⟨lr110, f2_337, f4_337, f18_337, f20_337, rfl, hp⟩
      refine k_join (p := (.alt (.ef 2 (.ef 3 (.ef 4 (.ef 6 (.ef 7 (.tp 8 (.done))))))) (.ef 3 (.ef 2 (.ef 4 (.ef 6 (.ef 7 (.tp 8 (.done))))))))) (A := fun ej wj => r11.length = 4 ∧ ej 2 = .pointer (some ⟨g2, 0, none⟩) ∧ ej 4 = .pointer (some ⟨g4, 0, none⟩) ∧ ej 18 = .agg (ints .u64 r11).toArray ∧ ej 22 = .agg (ints .u64 a0).toArray ∧ Hp w0 [] wj [⟨g1, 0, ints .u64 a0⟩, ⟨g2, 0, ints .u64 (List.replicate 4 (0 : Int))⟩, ⟨g4, 0, ints .u64 m10⟩] []) ?_ (fun T338 => ?_)
      · rintro ej338 w ⟨lr110, f2_338, f4_338, f18_338, f22_338, hp⟩
        refine k_alt ?_ ?_
        ·
          refine tk_ef ?_
          refine k_loadA (n := 4) (xs := ints .u64 m10) 0 rfl (by kernel_rfl) (by kernel_rfl) f4_338 (hp.get (j := 2) rfl) rfl rfl ((ints_length _ _).trans lm10) (fun m v hm => by rw [Nat.zero_add]; exact hm) ?_
          exact T333 _ _ ⟨lr110, f2_338, f4_338, f18_338, rfl, f22_338, hp⟩
        refine tk_ef ?_
        refine k_loadA (n := 4) (xs := ints .u64 m10) 0 rfl (by kernel_rfl) (by kernel_rfl) f4_338 (hp.get (j := 2) rfl) rfl rfl ((ints_length _ _).trans lm10) (fun m v hm => by rw [Nat.zero_add]; exact hm) ?_
        exact T334 _ _ ⟨lr110, f2_338, f4_338, f18_338, rfl, f22_338, hp⟩
      refine k_join (p := (.alt (.ef 1 (.alt (.ef 4 (.ef 5 (.ef 6 (.ef 7 (.tp 8 (.done)))))) (.ef 5 (.ef 4 (.ef 6 (.ef 7 (.tp 8 (.done)))))))) (.ef 5 (.ef 1 (.ef 4 (.ef 6 (.ef 7 (.tp 8 (.done))))))))) (A := fun ej wj => ej 1 = .pointer (some ⟨g1, 0, none⟩) ∧ ej 2 = .pointer (some ⟨g2, 0, none⟩) ∧ ej 17 = .agg (ints .u64 m10).toArray ∧ ej 19 = .agg (ints .u64 m10).toArray ∧ ej 20 = .agg (ints .u64 m10).toArray ∧ Hp w0 [] wj [⟨g1, 0, ints .u64 a0⟩, ⟨g2, 0, ints .u64 (List.replicate 4 (0 : Int))⟩, ⟨g4, 0, ints .u64 m10⟩] []) ?_ (fun T339 => ?_)
      · rintro ej339 w ⟨f1_339, f2_339, f17_339, f19_339, f20_339, hp⟩
        refine k_alt ?_ ?_
        ·
          refine k_call [.agg (ints .u64 m10).toArray] rfl (by kernel_rfl) (args1 f17_339) (postilionref04_Least_ok k m10 lm10 _ (hp.toR (fun _ h => by cases h)) qr11) ?_
          rintro _ w' ⟨_, rfl, rfl, lr110, hpc⟩
          refine ⟨_, rfl, .inr (.of_below hpc.chg.to_below), ?_⟩; have hp := hp.below hpc.chg.to_below; clear hpc
          exact T332 _ _ ⟨lr110, f1_339, f2_339, rfl, f19_339, f20_339, hp⟩
        refine tk_ef ?_
        refine k_loadA (n := 4) (xs := ints .u64 a0) 0 rfl (by kernel_rfl) (by kernel_rfl) f1_339 (hp.get (j := 0) rfl) rfl rfl ((ints_length _ _).trans la0) (fun m v hm => by rw [Nat.zero_add]; exact hm) ?_
        exact T335 _ _ ⟨f2_339, f17_339, f19_339, f20_339, rfl, hp⟩
      refine k_join (p := (.alt (.ef 1 (.ef 3 (.ef 4 (.ef 6 (.ef 7 (.tp 8 (.done))))))) (.ef 3 (.ef 1 (.ef 4 (.ef 6 (.ef 7 (.tp 8 (.done))))))))) (A := fun ej wj => ej 2 = .pointer (some ⟨g2, 0, none⟩) ∧ ej 4 = .pointer (some ⟨g4, 0, none⟩) ∧ ej 17 = .agg (ints .u64 m10).toArray ∧ ej 19 = .agg (ints .u64 m10).toArray ∧ ej 22 = .agg (ints .u64 a0).toArray ∧ Hp w0 [] wj [⟨g1, 0, ints .u64 a0⟩, ⟨g2, 0, ints .u64 (List.replicate 4 (0 : Int))⟩, ⟨g4, 0, ints .u64 m10⟩] []) ?_ (fun T340 => ?_)
      · rintro ej340 w ⟨f2_340, f4_340, f17_340, f19_340, f22_340, hp⟩
        refine k_alt ?_ ?_
        ·
          refine k_call [.agg (ints .u64 m10).toArray] rfl (by kernel_rfl) (args1 f17_340) (postilionref04_Least_ok k m10 lm10 _ (hp.toR (fun _ h => by cases h)) qr11) ?_
          rintro _ w' ⟨_, rfl, rfl, lr110, hpc⟩
          refine ⟨_, rfl, .inr (.of_below hpc.chg.to_below), ?_⟩; have hp := hp.below hpc.chg.to_below; clear hpc
          exact T333 _ _ ⟨lr110, f2_340, f4_340, rfl, f19_340, f22_340, hp⟩
        refine tk_ef ?_
        refine k_loadA (n := 4) (xs := ints .u64 m10) 0 rfl (by kernel_rfl) (by kernel_rfl) f4_340 (hp.get (j := 2) rfl) rfl rfl ((ints_length _ _).trans lm10) (fun m v hm => by rw [Nat.zero_add]; exact hm) ?_
        exact T335 _ _ ⟨f2_340, f17_340, f19_340, rfl, f22_340, hp⟩
      refine k_join (p := (.alt (.ef 1 (.ef 2 (.ef 4 (.ef 6 (.ef 7 (.tp 8 (.done))))))) (.ef 2 (.ef 1 (.ef 4 (.ef 6 (.ef 7 (.tp 8 (.done))))))))) (A := fun ej wj => ej 2 = .pointer (some ⟨g2, 0, none⟩) ∧ ej 4 = .pointer (some ⟨g4, 0, none⟩) ∧ ej 17 = .agg (ints .u64 m10).toArray ∧ ej 20 = .agg (ints .u64 m10).toArray ∧ ej 22 = .agg (ints .u64 a0).toArray ∧ Hp w0 [] wj [⟨g1, 0, ints .u64 a0⟩, ⟨g2, 0, ints .u64 (List.replicate 4 (0 : Int))⟩, ⟨g4, 0, ints .u64 m10⟩] []) ?_ (fun T341 => ?_)
      · rintro ej341 w ⟨f2_341, f4_341, f17_341, f20_341, f22_341, hp⟩
        refine k_alt ?_ ?_
        ·
          refine k_call [.agg (ints .u64 m10).toArray] rfl (by kernel_rfl) (args1 f17_341) (postilionref04_Least_ok k m10 lm10 _ (hp.toR (fun _ h => by cases h)) qr11) ?_
          rintro _ w' ⟨_, rfl, rfl, lr110, hpc⟩
          refine ⟨_, rfl, .inr (.of_below hpc.chg.to_below), ?_⟩; have hp := hp.below hpc.chg.to_below; clear hpc
          exact T334 _ _ ⟨lr110, f2_341, f4_341, rfl, f20_341, f22_341, hp⟩
        refine tk_ef ?_
        refine k_loadA (n := 4) (xs := ints .u64 m10) 0 rfl (by kernel_rfl) (by kernel_rfl) f4_341 (hp.get (j := 2) rfl) rfl rfl ((ints_length _ _).trans lm10) (fun m v hm => by rw [Nat.zero_add]; exact hm) ?_
        exact T335 _ _ ⟨f2_341, f17_341, rfl, f20_341, f22_341, hp⟩
      refine k_loadA (n := 4) (xs := ints .u64 m10) 0 rfl (by kernel_rfl) (by kernel_rfl) s4_e328 (hp.get (j := 2) rfl) rfl rfl ((ints_length _ _).trans lm10) (fun m v hm => by rw [Nat.zero_add]; exact hm) ?_
      refine k_alt ?_ ?_
      ·
        refine k_call [.agg (ints .u64 m10).toArray] rfl (by kernel_rfl) (args1 rfl) (postilionref04_Least_ok k m10 lm10 _ (hp.toR (fun _ h => by cases h)) qr11) ?_
        rintro _ w' ⟨_, rfl, rfl, lr110, hpc⟩
        refine ⟨_, rfl, .inr (.of_below hpc.chg.to_below), ?_⟩; have hp := hp.below hpc.chg.to_below; clear hpc
        refine k_alt ?_ ?_
        ·
          refine tk_ef ?_
          refine k_loadA (n := 4) (xs := ints .u64 m10) 0 rfl (by kernel_rfl) (by kernel_rfl) s4_e328 (hp.get (j := 2) rfl) rfl rfl ((ints_length _ _).trans lm10) (fun m v hm => by rw [Nat.zero_add]; exact hm) ?_
          exact T336 _ _ ⟨lr110, s1_e328, s2_e328, s4_e328, rfl, rfl, hp⟩
        refine k_alt ?_ ?_
        ·
          refine tk_ef ?_
          refine k_loadA (n := 4) (xs := ints .u64 m10) 0 rfl (by kernel_rfl) (by kernel_rfl) s4_e328 (hp.get (j := 2) rfl) rfl rfl ((ints_length _ _).trans lm10) (fun m v hm => by rw [Nat.zero_add]; exact hm) ?_
          exact T337 _ _ ⟨lr110, s1_e328, s2_e328, s4_e328, rfl, rfl, hp⟩
        refine tk_ef ?_
        refine k_loadA (n := 4) (xs := ints .u64 a0) 0 rfl (by kernel_rfl) (by kernel_rfl) s1_e328 (hp.get (j := 0) rfl) rfl rfl ((ints_length _ _).trans la0) (fun m v hm => by rw [Nat.zero_add]; exact hm) ?_
        exact T338 _ _ ⟨lr110, s2_e328, s4_e328, rfl, rfl, hp⟩
      refine k_alt ?_ ?_
      ·
        refine tk_ef ?_
        refine k_loadA (n := 4) (xs := ints .u64 m10) 0 rfl (by kernel_rfl) (by kernel_rfl) s4_e328 (hp.get (j := 2) rfl) rfl rfl ((ints_length _ _).trans lm10) (fun m v hm => by rw [Nat.zero_add]; exact hm) ?_
        refine k_alt ?_ ?_
        ·
          refine k_call [.agg (ints .u64 m10).toArray] rfl (by kernel_rfl) (args1 rfl) (postilionref04_Least_ok k m10 lm10 _ (hp.toR (fun _ h => by cases h)) qr11) ?_
          rintro _ w' ⟨_, rfl, rfl, lr110, hpc⟩
          refine ⟨_, rfl, .inr (.of_below hpc.chg.to_below), ?_⟩; have hp := hp.below hpc.chg.to_below; clear hpc
          exact T336 _ _ ⟨lr110, s1_e328, s2_e328, s4_e328, rfl, rfl, hp⟩
        refine k_alt ?_ ?_
        ·
          refine tk_ef ?_
          refine k_loadA (n := 4) (xs := ints .u64 m10) 0 rfl (by kernel_rfl) (by kernel_rfl) s4_e328 (hp.get (j := 2) rfl) rfl rfl ((ints_length _ _).trans lm10) (fun m v hm => by rw [Nat.zero_add]; exact hm) ?_
          exact T339 _ _ ⟨s1_e328, s2_e328, rfl, rfl, rfl, hp⟩
        refine tk_ef ?_
        refine k_loadA (n := 4) (xs := ints .u64 a0) 0 rfl (by kernel_rfl) (by kernel_rfl) s1_e328 (hp.get (j := 0) rfl) rfl rfl ((ints_length _ _).trans la0) (fun m v hm => by rw [Nat.zero_add]; exact hm) ?_
        exact T340 _ _ ⟨s2_e328, s4_e328, rfl, rfl, rfl, hp⟩
      refine k_alt ?_ ?_
      ·
        refine tk_ef ?_
        refine k_loadA (n := 4) (xs := ints .u64 m10) 0 rfl (by kernel_rfl) (by kernel_rfl) s4_e328 (hp.get (j := 2) rfl) rfl rfl ((ints_length _ _).trans lm10) (fun m v hm => by rw [Nat.zero_add]; exact hm) ?_
        refine k_alt ?_ ?_
        ·
          refine k_call [.agg (ints .u64 m10).toArray] rfl (by kernel_rfl) (args1 rfl) (postilionref04_Least_ok k m10 lm10 _ (hp.toR (fun _ h => by cases h)) qr11) ?_
          rintro _ w' ⟨_, rfl, rfl, lr110, hpc⟩
          refine ⟨_, rfl, .inr (.of_below hpc.chg.to_below), ?_⟩; have hp := hp.below hpc.chg.to_below; clear hpc
          exact T337 _ _ ⟨lr110, s1_e328, s2_e328, s4_e328, rfl, rfl, hp⟩
        refine k_alt ?_ ?_
        ·
          refine tk_ef ?_
          refine k_loadA (n := 4) (xs := ints .u64 m10) 0 rfl (by kernel_rfl) (by kernel_rfl) s4_e328 (hp.get (j := 2) rfl) rfl rfl ((ints_length _ _).trans lm10) (fun m v hm => by rw [Nat.zero_add]; exact hm) ?_
          exact T339 _ _ ⟨s1_e328, s2_e328, rfl, rfl, rfl, hp⟩
        refine tk_ef ?_
        refine k_loadA (n := 4) (xs := ints .u64 a0) 0 rfl (by kernel_rfl) (by kernel_rfl) s1_e328 (hp.get (j := 0) rfl) rfl rfl ((ints_length _ _).trans la0) (fun m v hm => by rw [Nat.zero_add]; exact hm) ?_
        exact T341 _ _ ⟨s2_e328, s4_e328, rfl, rfl, rfl, hp⟩
      refine tk_ef ?_
      refine k_loadA (n := 4) (xs := ints .u64 a0) 0 rfl (by kernel_rfl) (by kernel_rfl) s1_e328 (hp.get (j := 0) rfl) rfl rfl ((ints_length _ _).trans la0) (fun m v hm => by rw [Nat.zero_add]; exact hm) ?_
      refine k_alt ?_ ?_
      ·
        refine k_call [.agg (ints .u64 m10).toArray] rfl (by kernel_rfl) (args1 rfl) (postilionref04_Least_ok k m10 lm10 _ (hp.toR (fun _ h => by cases h)) qr11) ?_
        rintro _ w' ⟨_, rfl, rfl, lr110, hpc⟩
        refine ⟨_, rfl, .inr (.of_below hpc.chg.to_below), ?_⟩; have hp := hp.below hpc.chg.to_below; clear hpc
        exact T338 _ _ ⟨lr110, s2_e328, s4_e328, rfl, rfl, hp⟩
      refine k_alt ?_ ?_
      ·
        refine tk_ef ?_
        refine k_loadA (n := 4) (xs := ints .u64 m10) 0 rfl (by kernel_rfl) (by kernel_rfl) s4_e328 (hp.get (j := 2) rfl) rfl rfl ((ints_length _ _).trans lm10) (fun m v hm => by rw [Nat.zero_add]; exact hm) ?_
        exact T340 _ _ ⟨s2_e328, s4_e328, rfl, rfl, rfl, hp⟩
      refine tk_ef ?_
      refine k_loadA (n := 4) (xs := ints .u64 m10) 0 rfl (by kernel_rfl) (by kernel_rfl) s4_e328 (hp.get (j := 2) rfl) rfl rfl ((ints_length _ _).trans lm10) (fun m v hm => by rw [Nat.zero_add]; exact hm) ?_
      exact T341 _ _ ⟨s2_e328, s4_e328, rfl, rfl, rfl, hp⟩
    rintro e329 w ⟨lr110, s2_e329, s3_e329, hp⟩
    refine wret rfl ?_
    have hr : r = (r11, r13) := (Option.some.inj h).symm
    show RetP _ _ _ _ _
    rw [hr]
    exact ret_i [.agg (ints .u64 r11).toArray, .bool r13] (res_cell s2_e329 (loadVar_agg (by kernel_rfl) (by kernel_rfl) ((ints_length _ _).trans lr110) (hp.get (j := 1) rfl) rfl rfl rfl) (res_tmp s3_e329 res_nil)) ⟨rfl, lr110, hp.none⟩
end Go.Proofs.Ytmjjkhnofolacaa
