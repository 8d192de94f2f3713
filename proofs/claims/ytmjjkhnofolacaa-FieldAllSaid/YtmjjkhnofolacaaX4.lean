/-
  The walks: each function of the program form returns what its plain definition computes. Printed by my own program.
  Conditions: none; every function is taken as the given program's form has it.
-/
import Derived.Test.YtmjjkhnofolacaaProg
import Derived.Test.YtmjjkhnofolacaaX3
namespace Go.Proofs.Ytmjjkhnofolacaa
open Go Go.Gx Go.RowKit
set_option linter.unusedVariables false
set_option maxRecDepth 100000
/-! 36 postilion/postilionref04.Plus -/
theorem postilionref04_Plus.p1_ok {w0 : World} {Ws : List Wr} {Q : Exit → Env → World → Prop} (g1 g2 g3 g4 : Nat) (a0 : List Int) (a1 : List Int) (l_a0 : a0.length = 4) (l_a1 : a1.length = 4) {r : Int × List Int} (hQ0 : ∀ (e' : Env) (w' : World) (z0 : Int) (z1 : List Int), z1.length = 4 → e' 4 = .pointer (some ⟨g3, 0, none⟩) → e' 5 = .pointer (some ⟨g4, 0, none⟩) → e' 6 = .int .u64 z0 → Hp w0 Ws w' [⟨g1, 0, ints .u64 a0⟩, ⟨g2, 0, ints .u64 a1⟩, ⟨g3, 0, ints .u64 (List.replicate 4 (0 : Int))⟩, ⟨g4, 0, ints .u64 z1⟩] [] → r = (z0, z1) → Q (.exit 0) e' w') : ∀ (k : Nat), ∀ (y5 : List Int) (y6 : Int) (y7 : Int) (e : Env) (w : World) (ly5 : y5.length = 4) (s2_e : e 2 = .pointer (some ⟨g1, 0, none⟩)) (s3_e : e 3 = .pointer (some ⟨g2, 0, none⟩)) (s4_e : e 4 = .pointer (some ⟨g3, 0, none⟩)) (s5_e : e 5 = .pointer (some ⟨g4, 0, none⟩)) (s6_e : e 6 = .int .u64 y6) (s8_e : e 8 = .int .i64 y7) (hp : Hp w0 Ws w [⟨g1, 0, ints .u64 a0⟩, ⟨g2, 0, ints .u64 a1⟩, ⟨g3, 0, ints .u64 (List.replicate 4 (0 : Int))⟩, ⟨g4, 0, ints .u64 y5⟩] []) (h : postilionref04_Plus.p1 k a0 a1 y5 y6 y7 = some r), Lp Try.prog Try.f36.ntmps (at_ (fbody Try.f36) [1, 1, 1, 0, 1, 0, 0]) Q k e w := by
  intro k
  induction k with
  | zero => intro y5 y6 y7 e w ly5 s2_e s3_e s4_e s5_e s6_e s8_e hp h; cases h
  | succ k ih =>
    intro y5 y6 y7 e w ly5 s2_e s3_e s4_e s5_e s6_e s8_e hp h
    unfold postilionref04_Plus.p1 at h
    show Wp _ _ _ _ _ _
    refine wseq rfl ?_
    refine wregion (.tp 0 (.done)) [] rfl (by kernel_rfl) (by kernel_rfl) ?_
    refine k_bin (X := .int .i64 y7) (Y := .int .i64 4) rfl s8_e rfl rfl ?_
    refine k_end ?_; intro e346 qe346
    have s2_e346 : e346 2 = .pointer (some ⟨g1, 0, none⟩) := (congrFun qe346 2).trans s2_e
    have s3_e346 : e346 3 = .pointer (some ⟨g2, 0, none⟩) := (congrFun qe346 3).trans s3_e
    have s4_e346 : e346 4 = .pointer (some ⟨g3, 0, none⟩) := (congrFun qe346 4).trans s4_e
    have s5_e346 : e346 5 = .pointer (some ⟨g4, 0, none⟩) := (congrFun qe346 5).trans s5_e
    have s6_e346 : e346 6 = .int .u64 y6 := (congrFun qe346 6).trans s6_e
    have s8_e346 : e346 8 = .int .i64 y7 := (congrFun qe346 8).trans s8_e
    have s9_e346 : e346 9 = .bool (decide (y7 < 4)) := congrFun qe346 9
    clear qe346
    refine wseq rfl ?_
    refine wcond (t := (decide (y7 < 4))) rfl (by decide) s9_e346 (fun hb => ?_) (fun hb => ?_)
    · replace h := br_t hb h
      refine wskip rfl ?_
      refine wseq rfl ?_
      refine wblock rfl ?_
      refine wseq rfl ?_
      refine wregion (.tp 0 (.tp 1 (.done))) [] rfl (by kernel_rfl) (by kernel_rfl) ?_
      refine k_move (v := .int .i64 y7) rfl s8_e346 ?_
      refine k_assign (v := .int .i64 y7) rfl rfl ?_
      refine k_end ?_; intro e347 qe347
      have s2_e347 : e347 2 = .pointer (some ⟨g1, 0, none⟩) := (congrFun qe347 2).trans s2_e346
      have s3_e347 : e347 3 = .pointer (some ⟨g2, 0, none⟩) := (congrFun qe347 3).trans s3_e346
      have s4_e347 : e347 4 = .pointer (some ⟨g3, 0, none⟩) := (congrFun qe347 4).trans s4_e346
      have s5_e347 : e347 5 = .pointer (some ⟨g4, 0, none⟩) := (congrFun qe347 5).trans s5_e346
      have s6_e347 : e347 6 = .int .u64 y6 := (congrFun qe347 6).trans s6_e346
      have s7_e347 : e347 7 = .int .i64 y7 := congrFun qe347 7
      have s8_e347 : e347 8 = .int .i64 y7 := (congrFun qe347 8).trans s8_e346
      clear qe347
      refine wregion_m (.tp 0 (.tp 1 (.tp 2 (.tk 3 (.tp 4 (.tp 5 (.tk 6 (.tp 7 (.tp 8 (.tp 9 (.tp 10 (.tp 11 (.tp 12 (.ef 13 (.tp 14 (.done)))))))))))))))) [13] [(0, 0, 32767), (0, 0, 32767), (2, 2, 32767), (4, 4, 0), (0, 0, 32767), (16, 16, 32767), (32, 32, 0), (0, 0, 32767), (200, 200, 32767), (256, 256, 32767), (512, 512, 32767), (512, 512, 32767), (2047, 1, 32767), (6143, 32767, 32767), (16383, 2176, 32767)] rfl (by kernel_rfl) (by kernel_rfl) (Nat.le_of_ble_eq_true (by kernel_rfl)) (by kernel_rfl) (by kernel_rfl) ?_
      have hp := hp.drew
      refine k_move (v := .int .i64 y7) rfl s7_e347 ?_
      refine k_move (v := .int .i64 y7) rfl s7_e347 ?_
      obtain ⟨c8, h⟩ := chk_e h
      refine k_indexA (n := 4) (s := 1) (j := y7) rfl Try.underlying42 (by kernel_rfl) s2_e347 rfl c8 ?_
      refine k_load (j := (y7 : Int).toNat) (v := .int .u64 (a0.getD (y7 : Int).toNat 0)) rfl (by kernel_rfl) rfl (hp.get (j := 0) rfl) rfl (show 0 + (y7 : Int).toNat * 1 = 0 + (y7 : Int).toNat by omega) (ints_get (idx_lt c8 l_a0)) ?_
      refine k_move (v := .int .i64 y7) rfl s7_e347 ?_
      refine k_indexA (n := 4) (s := 1) (j := y7) rfl Try.underlying42 (by kernel_rfl) s3_e347 rfl c8 ?_
      refine k_load (j := (y7 : Int).toNat) (v := .int .u64 (a1.getD (y7 : Int).toNat 0)) rfl (by kernel_rfl) rfl (hp.get (j := 1) rfl) rfl (show 0 + (y7 : Int).toNat * 1 = 0 + (y7 : Int).toNat by omega) (ints_get (idx_lt c8 l_a1)) ?_
      refine k_move (v := .int .u64 y6) rfl s6_e347 ?_
      obtain ⟨c9, h⟩ := chk_e h
      refine k_ext [.int .u64 (a0.getD (y7 : Int).toNat 0), .int .u64 (a1.getD (y7 : Int).toNat 0), .int .u64 y6] rfl ext54 (args3 rfl rfl rfl) (fun w' => run_add64 (a0.getD (y7 : Int).toNat 0) (a1.getD (y7 : Int).toNat 0) y6 c9.1 c9.2.1 c9.2.2.1 c9.2.2.2 w') ?_
      refine k_move (v := .tuple #[.int .u64 (((a0.getD (y7 : Int).toNat 0) + (a1.getD (y7 : Int).toNat 0) + y6) % 18446744073709551616), .int .u64 (((a0.getD (y7 : Int).toNat 0) + (a1.getD (y7 : Int).toNat 0) + y6) / 18446744073709551616)]) rfl rfl ?_
      refine k_extract (v := .int .u64 (((a0.getD (y7 : Int).toNat 0) + (a1.getD (y7 : Int).toNat 0) + y6) % 18446744073709551616)) rfl rfl rfl ?_
      refine k_extract (v := .int .u64 (((a0.getD (y7 : Int).toNat 0) + (a1.getD (y7 : Int).toNat 0) + y6) / 18446744073709551616)) rfl rfl rfl ?_
      refine k_indexA (n := 4) (s := 1) (j := y7) rfl Try.underlying42 (by kernel_rfl) s5_e347 rfl c8 ?_
      refine k_store (v := .int .u64 (((a0.getD (y7 : Int).toNat 0) + (a1.getD (y7 : Int).toNat 0) + y6) % 18446744073709551616)) 3 (y7 : Int).toNat (r := ⟨g4, 0, ints .u64 y5⟩) rfl (by kernel_rfl) rfl rfl rfl hp rfl rfl (show 0 + (y7 : Int).toNat * 1 = 0 + (y7 : Int).toNat by omega) (Nat.lt_of_lt_of_eq (idx_lt c8 ly5) (ints_length _ _).symm) (by decide) ?_; intro w hp; rw [ints_set] at hp
      refine k_assign (v := .int .u64 (((a0.getD (y7 : Int).toNat 0) + (a1.getD (y7 : Int).toNat 0) + y6) / 18446744073709551616)) rfl rfl ?_
      refine k_end ?_; intro e348 qe348
      have s2_e348 : e348 2 = .pointer (some ⟨g1, 0, none⟩) := (congrFun qe348 2).trans s2_e347
      have s3_e348 : e348 3 = .pointer (some ⟨g2, 0, none⟩) := (congrFun qe348 3).trans s3_e347
      have s4_e348 : e348 4 = .pointer (some ⟨g3, 0, none⟩) := (congrFun qe348 4).trans s4_e347
      have s5_e348 : e348 5 = .pointer (some ⟨g4, 0, none⟩) := (congrFun qe348 5).trans s5_e347
      obtain ⟨x10, qx10, h⟩ := lt_e h
      have s6_e348 : e348 6 = .int .u64 x10 := (congrFun qe348 6).trans (congrArg (Value.int .u64) qx10.symm)
      have s8_e348 : e348 8 = .int .i64 y7 := (congrFun qe348 8).trans s8_e347
      clear qe348
      refine wregion (.tp 0 (.tp 1 (.done))) [] rfl (by kernel_rfl) (by kernel_rfl) ?_
      refine k_bin (X := .int .i64 y7) (Y := .int .i64 1) rfl s8_e348 rfl rfl ?_
      refine k_move (v := .int .i64 (IntKind.i64.wrap (y7 + 1))) rfl rfl ?_
      refine k_end ?_; intro e349 qe349
      have s2_e349 : e349 2 = .pointer (some ⟨g1, 0, none⟩) := (congrFun qe349 2).trans s2_e348
      have s3_e349 : e349 3 = .pointer (some ⟨g2, 0, none⟩) := (congrFun qe349 3).trans s3_e348
      have s4_e349 : e349 4 = .pointer (some ⟨g3, 0, none⟩) := (congrFun qe349 4).trans s4_e348
      have s5_e349 : e349 5 = .pointer (some ⟨g4, 0, none⟩) := (congrFun qe349 5).trans s5_e348
      have s6_e349 : e349 6 = .int .u64 x10 := (congrFun qe349 6).trans s6_e348
      obtain ⟨x11, qx11, h⟩ := lt_e h
      have s8_e349 : e349 8 = .int .i64 x11 := (congrFun qe349 8).trans (congrArg (Value.int .i64) qx11.symm)
      clear qe349
      exact ih (y5.set (y7 : Int).toNat (((a0.getD (y7 : Int).toNat 0) + (a1.getD (y7 : Int).toNat 0) + y6) % 18446744073709551616)) x10 x11 _ _ (List.length_set.trans ly5) s2_e349 s3_e349 s4_e349 s5_e349 s6_e349 s8_e349 (hp.drop (L' := [⟨g1, 0, ints .u64 a0⟩, ⟨g2, 0, ints .u64 a1⟩, ⟨g3, 0, ints .u64 (List.replicate 4 (0 : Int))⟩, ⟨g4, 0, ints .u64 (y5.set (y7 : Int).toNat (((a0.getD (y7 : Int).toNat 0) + (a1.getD (y7 : Int).toNat 0) + y6) % 18446744073709551616))⟩]) (List.Sublist.refl _)) h
    · replace h := br_f hb h
      refine wexit rfl ?_
      exact hQ0 _ _ y6 y5 ly5 s4_e346 s5_e346 s6_e346 (hp.drop (L' := [⟨g1, 0, ints .u64 a0⟩, ⟨g2, 0, ints .u64 a1⟩, ⟨g3, 0, ints .u64 (List.replicate 4 (0 : Int))⟩, ⟨g4, 0, ints .u64 y5⟩]) (List.Sublist.refl _)) (Option.some.inj h).symm
theorem postilionref04_Plus_ok (k : Nat) (a0 : List Int) (a1 : List Int) (la0 : a0.length = 4) (la1 : a1.length = 4) (w0 : World) (hp : Hp w0 [] w0 [] []) {r : List Int} (h : postilionref04_Plus.f k a0 a1 = some r) :
    Calls Try.prog 36 [.agg (ints .u64 a0).toArray, .agg (ints .u64 a1).toArray].toArray w0 fun x w' => ∃ v, x = .returned v ∧ v = .agg (ints .u64 r).toArray ∧ r.length = 4 ∧ Hp w0 [] w' [] [] := by
  refine calls_in Try.func36 rfl (Nat.le_of_ble_eq_true (by kernel_rfl)) (by kernel_rfl) ?_
  intro e0 qe0
  have s0_e0 : e0 0 = .agg (ints .u64 a0).toArray := congrFun qe0 0
  have s1_e0 : e0 1 = .agg (ints .u64 a1).toArray := congrFun qe0 1
  clear qe0
  unfold postilionref04_Plus.f at h
  refine wseq rfl ?_
  refine wregion (.ef 0 (.ef 1 (.ef 2 (.done)))) [] rfl (by kernel_rfl) (by kernel_rfl) ?_
  refine k_box (v := .agg (ints .u64 a0).toArray) (ints .u64 a0) rfl s0_e0 rfl hp ?_
  intro g1 w hbg1 hp
  refine k_box (v := .agg (ints .u64 a1).toArray) (ints .u64 a1) rfl s1_e0 rfl hp ?_
  intro g2 w hbg2 hp
  refine k_alloc (ints .u64 (List.replicate 4 (0 : Int))) rfl (by kernel_rfl) hp ?_
  intro g3 w hbg3 hp
  refine k_end ?_; intro e342 qe342
  have s2_e342 : e342 2 = .pointer (some ⟨g1, 0, none⟩) := congrFun qe342 2
  have s3_e342 : e342 3 = .pointer (some ⟨g2, 0, none⟩) := congrFun qe342 3
  have s4_e342 : e342 4 = .pointer (some ⟨g3, 0, none⟩) := congrFun qe342 4
  clear qe342
  refine wseq rfl ?_
  refine wregion (.ef 0 (.done)) [] rfl (by kernel_rfl) (by kernel_rfl) ?_
  refine k_alloc (ints .u64 (List.replicate 4 (0 : Int))) rfl (by kernel_rfl) hp ?_
  intro g4 w hbg4 hp
  refine k_end ?_; intro e343 qe343
  have s2_e343 : e343 2 = .pointer (some ⟨g1, 0, none⟩) := (congrFun qe343 2).trans s2_e342
  have s3_e343 : e343 3 = .pointer (some ⟨g2, 0, none⟩) := (congrFun qe343 3).trans s3_e342
  have s4_e343 : e343 4 = .pointer (some ⟨g3, 0, none⟩) := (congrFun qe343 4).trans s4_e342
  have s5_e343 : e343 5 = .pointer (some ⟨g4, 0, none⟩) := congrFun qe343 5
  clear qe343
  refine wseq rfl ?_
  refine wregion (.tp 0 (.done)) [] rfl (by kernel_rfl) (by kernel_rfl) ?_
  refine k_assign (v := .int .u64 0) rfl rfl ?_
  refine k_end ?_; intro e344 qe344
  have s2_e344 : e344 2 = .pointer (some ⟨g1, 0, none⟩) := (congrFun qe344 2).trans s2_e343
  have s3_e344 : e344 3 = .pointer (some ⟨g2, 0, none⟩) := (congrFun qe344 3).trans s3_e343
  have s4_e344 : e344 4 = .pointer (some ⟨g3, 0, none⟩) := (congrFun qe344 4).trans s4_e343
  have s5_e344 : e344 5 = .pointer (some ⟨g4, 0, none⟩) := (congrFun qe344 5).trans s5_e343
  have s6_e344 : e344 6 = .int .u64 0 := congrFun qe344 6
  clear qe344
  refine wseq rfl ?_
  refine wseq rfl ?_
  refine wregion (.tp 0 (.done)) [] rfl (by kernel_rfl) (by kernel_rfl) ?_
  refine k_move (v := .int .i64 0) rfl rfl ?_
  refine k_end ?_; intro e345 qe345
  have s2_e345 : e345 2 = .pointer (some ⟨g1, 0, none⟩) := (congrFun qe345 2).trans s2_e344
  have s3_e345 : e345 3 = .pointer (some ⟨g2, 0, none⟩) := (congrFun qe345 3).trans s3_e344
  have s4_e345 : e345 4 = .pointer (some ⟨g3, 0, none⟩) := (congrFun qe345 4).trans s4_e344
  have s5_e345 : e345 5 = .pointer (some ⟨g4, 0, none⟩) := (congrFun qe345 5).trans s5_e344
  have s6_e345 : e345 6 = .int .u64 0 := (congrFun qe345 6).trans s6_e344
  have s8_e345 : e345 8 = .int .i64 0 := congrFun qe345 8
  clear qe345
  refine wblock rfl ?_
  obtain ⟨r12, qr12, h⟩ := bd_e h
  refine wloop k rfl (postilionref04_Plus.p1_ok g1 g2 g3 g4 a0 a1 la0 la1 ?hq0 k (List.replicate 4 (0 : Int)) 0 0 e345 _ List.length_replicate s2_e345 s3_e345 s4_e345 s5_e345 s6_e345 s8_e345 hp qr12)
  case hq0 =>
    intro e350 w m13 m14 lm14 s4_e350 s5_e350 s6_e350 hp qq
    rw [qq] at h; clear qq
    refine wseq rfl ?_
    refine wregion (.tk 0 (.tp 1 (.ef 2 (.ef 3 (.done))))) [3] rfl (by kernel_rfl) (by kernel_rfl) ?_
    refine k_loadA (n := 4) (xs := ints .u64 m14) 0 rfl (by kernel_rfl) (by kernel_rfl) s5_e350 (hp.get (j := 3) rfl) rfl rfl ((ints_length _ _).trans lm14) (fun m v hm => by rw [Nat.zero_add]; exact hm) ?_
    refine k_move (v := .int .u64 m13) rfl s6_e350 ?_
    obtain ⟨r15, qr15, h⟩ := bd_e h
    refine k_call [.agg (ints .u64 m14).toArray, .int .u64 m13] rfl (by kernel_rfl) (args2 rfl rfl) (postilionref04_fold_ok k m14 m13 lm14 _ (hp.toR (fun _ h => by cases h)) qr15) ?_
    rintro _ w' ⟨_, rfl, rfl, lr150, hpc⟩
    refine ⟨_, rfl, .inr (.of_below hpc.chg.to_below), ?_⟩; have hp := hp.below hpc.chg.to_below; clear hpc
    refine k_storeA (v := .agg (ints .u64 r15).toArray) 2 0 (r := ⟨g3, 0, ints .u64 (List.replicate 4 (0 : Int))⟩) (ints .u64 r15) (ints .u64 r15) rfl (n := 4) (by kernel_rfl) s4_e350 rfl rfl ((ints_length _ _).trans lr150) (ints_one _ _) hp rfl rfl rfl (Nat.le_of_eq ((Nat.zero_add _).trans ((ints_length _ _).trans List.length_replicate).symm)) (setMany_all _ _ (((ints_length _ _).trans lr150).trans ((ints_length _ _).trans List.length_replicate).symm)) (by decide) ?_; intro w hp
    refine k_end ?_; intro e351 qe351
    have s4_e351 : e351 4 = .pointer (some ⟨g3, 0, none⟩) := (congrFun qe351 4).trans s4_e350
    clear qe351
    refine wret rfl ?_
    have hr : r = r15 := (Option.some.inj h).symm
    show RetP _ _ _ _ _
    rw [hr]
    exact ret_i [.agg (ints .u64 r15).toArray] (res_cell s4_e351 (loadVar_agg (by kernel_rfl) (by kernel_rfl) ((ints_length _ _).trans lr150) (hp.get (j := 2) rfl) rfl rfl rfl) res_nil) ⟨rfl, lr150, hp.none⟩
/-! 31 postilion/postilionref04.Minus -/
theorem postilionref04_Minus_ok (k : Nat) (a0 : List Int) (a1 : List Int) (la0 : a0.length = 4) (la1 : a1.length = 4) (w0 : World) (hp : Hp w0 [] w0 [] []) {r : List Int} (h : postilionref04_Minus.f k a0 a1 = some r) :
    Calls Try.prog 31 [.agg (ints .u64 a0).toArray, .agg (ints .u64 a1).toArray].toArray w0 fun x w' => ∃ v, x = .returned v ∧ v = .agg (ints .u64 r).toArray ∧ r.length = 4 ∧ Hp w0 [] w' [] [] := by
  refine calls_in Try.func31 rfl (Nat.le_of_ble_eq_true (by kernel_rfl)) (by kernel_rfl) ?_
  intro e0 qe0
  have s0_e0 : e0 0 = .agg (ints .u64 a0).toArray := congrFun qe0 0
  have s1_e0 : e0 1 = .agg (ints .u64 a1).toArray := congrFun qe0 1
  clear qe0
  unfold postilionref04_Minus.f at h
  refine wseq rfl ?_
  refine wregion (.ef 0 (.ef 1 (.ef 2 (.done)))) [] rfl (by kernel_rfl) (by kernel_rfl) ?_
  refine k_box (v := .agg (ints .u64 a0).toArray) (ints .u64 a0) rfl s0_e0 rfl hp ?_
  intro g1 w hbg1 hp
  refine k_box (v := .agg (ints .u64 a1).toArray) (ints .u64 a1) rfl s1_e0 rfl hp ?_
  intro g2 w hbg2 hp
  refine k_alloc (ints .u64 (List.replicate 4 (0 : Int))) rfl (by kernel_rfl) hp ?_
  intro g3 w hbg3 hp
  refine k_end ?_; intro e352 qe352
  have s2_e352 : e352 2 = .pointer (some ⟨g1, 0, none⟩) := congrFun qe352 2
  have s3_e352 : e352 3 = .pointer (some ⟨g2, 0, none⟩) := congrFun qe352 3
  have s4_e352 : e352 4 = .pointer (some ⟨g3, 0, none⟩) := congrFun qe352 4
  clear qe352
  refine wseq rfl ?_
  refine wregion_m (.tk 0 (.tk 2 (.ef 1 (.ef 3 (.ef 4 (.ef 5 (.ef 6 (.done)))))))) [6] [(0, 0, 0), (0, 127, 127), (0, 0, 0), (6, 127, 127), (10, 127, 127), (17, 127, 127), (63, 127, 127)] rfl (by kernel_rfl) (by kernel_rfl) (Nat.le_of_ble_eq_true (by kernel_rfl)) (by kernel_rfl) (by kernel_rfl) ?_
  have hp := hp.drew
  refine k_loadA (n := 4) (xs := ints .u64 a0) 0 rfl (by kernel_rfl) (by kernel_rfl) s2_e352 (hp.get (j := 0) rfl) rfl rfl ((ints_length _ _).trans la0) (fun m v hm => by rw [Nat.zero_add]; exact hm) ?_
  refine k_loadA (n := 4) (xs := ints .u64 a1) 0 rfl (by kernel_rfl) (by kernel_rfl) s3_e352 (hp.get (j := 1) rfl) rfl rfl ((ints_length _ _).trans la1) (fun m v hm => by rw [Nat.zero_add]; exact hm) ?_
  obtain ⟨r4, qr4, h⟩ := bd_e h
  refine k_call [] rfl (by kernel_rfl) (args0 ) (postilionref04_p_ok   _ (hp.toR (fun _ h => by cases h)) qr4) ?_
  rintro _ w' ⟨_, rfl, rfl, lr40, hpc⟩
  refine ⟨_, rfl, .inr (.of_below hpc.chg.to_below), ?_⟩; have hp := hp.below hpc.chg.to_below; clear hpc
  obtain ⟨r5, qr5, h⟩ := bd_e h
  refine k_call [.agg (ints .u64 a1).toArray] rfl (by kernel_rfl) (args1 rfl) (postilionref04_Least_ok k a1 la1 _ (hp.toR (fun _ h => by cases h)) qr5) ?_
  rintro _ w' ⟨_, rfl, rfl, lr50, hpc⟩
  refine ⟨_, rfl, .inr (.of_below hpc.chg.to_below), ?_⟩; have hp := hp.below hpc.chg.to_below; clear hpc
  obtain ⟨r6, qr6, h⟩ := bd_e h
  refine k_call [.agg (ints .u64 r4).toArray, .agg (ints .u64 r5).toArray] rfl (by kernel_rfl) (args2 rfl rfl) (postilionref04_less_ok k r4 r5 lr40 lr50 _ (hp.toR (fun _ h => by cases h)) qr6) ?_
  rintro _ w' ⟨_, rfl, rfl, lr60, hpc⟩
  refine ⟨_, rfl, .inr (.of_below hpc.chg.to_below), ?_⟩; have hp := hp.below hpc.chg.to_below; clear hpc
  obtain ⟨r7, qr7, h⟩ := bd_e h
  refine k_call [.agg (ints .u64 a0).toArray, .agg (ints .u64 r6).toArray] rfl (by kernel_rfl) (args2 rfl rfl) (postilionref04_Plus_ok k a0 r6 la0 lr60 _ (hp.toR (fun _ h => by cases h)) qr7) ?_
  rintro _ w' ⟨_, rfl, rfl, lr70, hpc⟩
  refine ⟨_, rfl, .inr (.of_below hpc.chg.to_below), ?_⟩; have hp := hp.below hpc.chg.to_below; clear hpc
  refine k_storeA (v := .agg (ints .u64 r7).toArray) 2 0 (r := ⟨g3, 0, ints .u64 (List.replicate 4 (0 : Int))⟩) (ints .u64 r7) (ints .u64 r7) rfl (n := 4) (by kernel_rfl) s4_e352 rfl rfl ((ints_length _ _).trans lr70) (ints_one _ _) hp rfl rfl rfl (Nat.le_of_eq ((Nat.zero_add _).trans ((ints_length _ _).trans List.length_replicate).symm)) (setMany_all _ _ (((ints_length _ _).trans lr70).trans ((ints_length _ _).trans List.length_replicate).symm)) (by decide) ?_; intro w hp
  refine k_end ?_; intro e353 qe353
  have s4_e353 : e353 4 = .pointer (some ⟨g3, 0, none⟩) := (congrFun qe353 4).trans s4_e352
  clear qe353
  refine wret rfl ?_
  have hr : r = r7 := (Option.some.inj h).symm
  show RetP _ _ _ _ _
  rw [hr]
  exact ret_i [.agg (ints .u64 r7).toArray] (res_cell s4_e353 (loadVar_agg (by kernel_rfl) (by kernel_rfl) ((ints_length _ _).trans lr70) (hp.get (j := 2) rfl) rfl rfl rfl) res_nil) ⟨rfl, lr70, hp.none⟩
/-! 33 postilion/postilionref04.Bytes -/
theorem postilionref04_Bytes.p1_ok {w0 : World} {Ws : List Wr} {Q : Exit → Env → World → Prop} (g1 g2 g4 : Nat) (r3 : List Int) (l_r3 : r3.length = 4) {r : List Int} (hQ0 : ∀ (e' : Env) (w' : World) (z0 : List Int), z0.length = 32 → e' 2 = .pointer (some ⟨g2, 0, none⟩) → e' 3 = .pointer (some ⟨g4, 0, none⟩) → Hp w0 Ws w' [⟨g1, 0, ints .u64 r3⟩, ⟨g2, 0, ints .u8 (List.replicate 32 (0 : Int))⟩, ⟨g4, 0, ints .u8 z0⟩] [] → r = (z0) → Q (.exit 0) e' w') : ∀ (k : Nat), ∀ (y5 : List Int) (y6 : Int) (e : Env) (w : World) (ly5 : y5.length = 32) (s1_e : e 1 = .pointer (some ⟨g1, 0, none⟩)) (s2_e : e 2 = .pointer (some ⟨g2, 0, none⟩)) (s3_e : e 3 = .pointer (some ⟨g4, 0, none⟩)) (s7_e : e 7 = .int .i64 y6) (hp : Hp w0 Ws w [⟨g1, 0, ints .u64 r3⟩, ⟨g2, 0, ints .u8 (List.replicate 32 (0 : Int))⟩, ⟨g4, 0, ints .u8 y5⟩] []) (h : postilionref04_Bytes.p1 k r3 y5 y6 = some r), Lp Try.prog Try.f33.ntmps (at_ (fbody Try.f33) [1, 1, 1, 0, 1, 0, 0]) Q k e w := by
  intro k
  induction k with
  | zero => intro y5 y6 e w ly5 s1_e s2_e s3_e s7_e hp h; cases h
  | succ k ih =>
    intro y5 y6 e w ly5 s1_e s2_e s3_e s7_e hp h
    unfold postilionref04_Bytes.p1 at h
    show Wp _ _ _ _ _ _
    refine wseq rfl ?_
    refine wregion (.tp 0 (.done)) [] rfl (by kernel_rfl) (by kernel_rfl) ?_
    refine k_bin (X := .int .i64 y6) (Y := .int .i64 32) rfl s7_e rfl rfl ?_
    refine k_end ?_; intro e358 qe358
    have s1_e358 : e358 1 = .pointer (some ⟨g1, 0, none⟩) := (congrFun qe358 1).trans s1_e
    have s2_e358 : e358 2 = .pointer (some ⟨g2, 0, none⟩) := (congrFun qe358 2).trans s2_e
    have s3_e358 : e358 3 = .pointer (some ⟨g4, 0, none⟩) := (congrFun qe358 3).trans s3_e
    have s7_e358 : e358 7 = .int .i64 y6 := (congrFun qe358 7).trans s7_e
    have s8_e358 : e358 8 = .bool (decide (y6 < 32)) := congrFun qe358 8
    clear qe358
    refine wseq rfl ?_
    refine wcond (t := (decide (y6 < 32))) rfl (by decide) s8_e358 (fun hb => ?_) (fun hb => ?_)
    · replace h := br_t hb h
      refine wskip rfl ?_
      refine wseq rfl ?_
      refine wblock rfl ?_
      refine wseq rfl ?_
      refine wregion (.tp 0 (.tp 1 (.done))) [] rfl (by kernel_rfl) (by kernel_rfl) ?_
      refine k_move (v := .int .i64 y6) rfl s7_e358 ?_
      refine k_assign (v := .int .i64 y6) rfl rfl ?_
      refine k_end ?_; intro e359 qe359
      have s1_e359 : e359 1 = .pointer (some ⟨g1, 0, none⟩) := (congrFun qe359 1).trans s1_e358
      have s2_e359 : e359 2 = .pointer (some ⟨g2, 0, none⟩) := (congrFun qe359 2).trans s2_e358
      have s3_e359 : e359 3 = .pointer (some ⟨g4, 0, none⟩) := (congrFun qe359 3).trans s3_e358
      have s4_e359 : e359 4 = .int .i64 y6 := congrFun qe359 4
      have s7_e359 : e359 7 = .int .i64 y6 := (congrFun qe359 7).trans s7_e358
      clear qe359
      refine wregion (.tp 0 (.tp 1 (.tp 2 (.tp 3 (.tk 4 (.tp 5 (.tp 6 (.tp 7 (.tp 8 (.tp 9 (.tp 10 (.tp 11 (.ef 12 (.done)))))))))))))) [12] rfl (by kernel_rfl) (by kernel_rfl) ?_
      refine k_move (v := .int .i64 y6) rfl s4_e359 ?_
      refine k_move (v := .int .i64 y6) rfl s4_e359 ?_
      refine k_quo (a := y6) (b := 8) rfl rfl rfl (by decide) ?_
      obtain ⟨c7, h⟩ := chk_e h
      refine k_indexA (n := 4) (s := 1) (j := (IntKind.i64.wrap (Int.tdiv y6 8))) rfl Try.underlying42 (by kernel_rfl) s1_e359 rfl c7 ?_
      refine k_load (j := ((IntKind.i64.wrap (Int.tdiv y6 8)) : Int).toNat) (v := .int .u64 (r3.getD ((IntKind.i64.wrap (Int.tdiv y6 8)) : Int).toNat 0)) rfl (by kernel_rfl) rfl (hp.get (j := 0) rfl) rfl (show 0 + ((IntKind.i64.wrap (Int.tdiv y6 8)) : Int).toNat * 1 = 0 + ((IntKind.i64.wrap (Int.tdiv y6 8)) : Int).toNat by omega) (ints_get (idx_lt c7 l_r3)) ?_
      refine k_move (v := .int .i64 y6) rfl s4_e359 ?_
      refine k_rem (a := y6) (b := 8) rfl rfl rfl (by decide) ?_
      refine k_bin (X := .int .i64 8) (Y := .int .i64 (Int.tmod y6 8)) rfl rfl rfl rfl ?_
      refine k_conv (k := .u64) (k' := .i64) (n := (IntKind.i64.wrap (8 * (Int.tmod y6 8)))) rfl Try.underlying3 Try.underlying52 rfl ?_
      obtain ⟨c8, h⟩ := chk_e h
      refine k_shr (a := (r3.getD ((IntKind.i64.wrap (Int.tdiv y6 8)) : Int).toNat 0)) (b := (IntKind.u64.wrap (IntKind.i64.wrap (8 * (Int.tmod y6 8))))) rfl rfl rfl c8 ?_
      refine k_conv (k := .u8) (k' := .u64) (n := (Int.fdiv (r3.getD ((IntKind.i64.wrap (Int.tdiv y6 8)) : Int).toNat 0) (2 ^ (min ((IntKind.u64.wrap (IntKind.i64.wrap (8 * (Int.tmod y6 8)))) : Int).toNat (IntKind.u64).bits)))) rfl Try.underlying32 Try.underlying5 rfl ?_
      obtain ⟨c9, h⟩ := chk_e h
      refine k_indexA (n := 32) (s := 1) (j := y6) rfl Try.underlying22 (by kernel_rfl) s3_e359 rfl c9 ?_
      refine k_store (v := .int .u8 (IntKind.u8.wrap (Int.fdiv (r3.getD ((IntKind.i64.wrap (Int.tdiv y6 8)) : Int).toNat 0) (2 ^ (min ((IntKind.u64.wrap (IntKind.i64.wrap (8 * (Int.tmod y6 8)))) : Int).toNat (IntKind.u64).bits))))) 2 (y6 : Int).toNat (r := ⟨g4, 0, ints .u8 y5⟩) rfl (by kernel_rfl) rfl rfl rfl hp rfl rfl (show 0 + (y6 : Int).toNat * 1 = 0 + (y6 : Int).toNat by omega) (Nat.lt_of_lt_of_eq (idx_lt c9 ly5) (ints_length _ _).symm) (by decide) ?_; intro w hp; rw [ints_set] at hp
      refine k_end ?_; intro e360 qe360
      have s1_e360 : e360 1 = .pointer (some ⟨g1, 0, none⟩) := (congrFun qe360 1).trans s1_e359
      have s2_e360 : e360 2 = .pointer (some ⟨g2, 0, none⟩) := (congrFun qe360 2).trans s2_e359
      have s3_e360 : e360 3 = .pointer (some ⟨g4, 0, none⟩) := (congrFun qe360 3).trans s3_e359
      have s7_e360 : e360 7 = .int .i64 y6 := (congrFun qe360 7).trans s7_e359
      clear qe360
      refine wregion (.tp 0 (.tp 1 (.done))) [] rfl (by kernel_rfl) (by kernel_rfl) ?_
      refine k_bin (X := .int .i64 y6) (Y := .int .i64 1) rfl s7_e360 rfl rfl ?_
      refine k_move (v := .int .i64 (IntKind.i64.wrap (y6 + 1))) rfl rfl ?_
      refine k_end ?_; intro e361 qe361
      have s1_e361 : e361 1 = .pointer (some ⟨g1, 0, none⟩) := (congrFun qe361 1).trans s1_e360
      have s2_e361 : e361 2 = .pointer (some ⟨g2, 0, none⟩) := (congrFun qe361 2).trans s2_e360
      have s3_e361 : e361 3 = .pointer (some ⟨g4, 0, none⟩) := (congrFun qe361 3).trans s3_e360
      obtain ⟨x10, qx10, h⟩ := lt_e h
      have s7_e361 : e361 7 = .int .i64 x10 := (congrFun qe361 7).trans (congrArg (Value.int .i64) qx10.symm)
      clear qe361
      exact ih (y5.set (y6 : Int).toNat (IntKind.u8.wrap (Int.fdiv (r3.getD ((IntKind.i64.wrap (Int.tdiv y6 8)) : Int).toNat 0) (2 ^ (min ((IntKind.u64.wrap (IntKind.i64.wrap (8 * (Int.tmod y6 8)))) : Int).toNat (IntKind.u64).bits))))) x10 _ _ (List.length_set.trans ly5) s1_e361 s2_e361 s3_e361 s7_e361 (hp.drop (L' := [⟨g1, 0, ints .u64 r3⟩, ⟨g2, 0, ints .u8 (List.replicate 32 (0 : Int))⟩, ⟨g4, 0, ints .u8 (y5.set (y6 : Int).toNat (IntKind.u8.wrap (Int.fdiv (r3.getD ((IntKind.i64.wrap (Int.tdiv y6 8)) : Int).toNat 0) (2 ^ (min ((IntKind.u64.wrap (IntKind.i64.wrap (8 * (Int.tmod y6 8)))) : Int).toNat (IntKind.u64).bits)))))⟩]) (List.Sublist.refl _)) h
    · replace h := br_f hb h
      refine wexit rfl ?_
      exact hQ0 _ _ y5 ly5 s2_e358 s3_e358 (hp.drop (L' := [⟨g1, 0, ints .u64 r3⟩, ⟨g2, 0, ints .u8 (List.replicate 32 (0 : Int))⟩, ⟨g4, 0, ints .u8 y5⟩]) (List.Sublist.refl _)) (Option.some.inj h).symm
theorem postilionref04_Bytes_ok (k : Nat) (a0 : List Int) (la0 : a0.length = 4) (w0 : World) (hp : Hp w0 [] w0 [] []) {r : List Int} (h : postilionref04_Bytes.f k a0 = some r) :
    Calls Try.prog 33 [.agg (ints .u64 a0).toArray].toArray w0 fun x w' => ∃ v, x = .returned v ∧ v = .agg (ints .u8 r).toArray ∧ r.length = 32 ∧ Hp w0 [] w' [] [] := by
  refine calls_in Try.func33 rfl (Nat.le_of_ble_eq_true (by kernel_rfl)) (by kernel_rfl) ?_
  intro e0 qe0
  have s0_e0 : e0 0 = .agg (ints .u64 a0).toArray := congrFun qe0 0
  clear qe0
  unfold postilionref04_Bytes.f at h
  refine wseq rfl ?_
  refine wregion (.ef 0 (.ef 1 (.done))) [] rfl (by kernel_rfl) (by kernel_rfl) ?_
  refine k_box (v := .agg (ints .u64 a0).toArray) (ints .u64 a0) rfl s0_e0 rfl hp ?_
  intro g1 w hbg1 hp
  refine k_alloc (ints .u8 (List.replicate 32 (0 : Int))) rfl (by kernel_rfl) hp ?_
  intro g2 w hbg2 hp
  refine k_end ?_; intro e354 qe354
  have s1_e354 : e354 1 = .pointer (some ⟨g1, 0, none⟩) := congrFun qe354 1
  have s2_e354 : e354 2 = .pointer (some ⟨g2, 0, none⟩) := congrFun qe354 2
  clear qe354
  refine wseq rfl ?_
  refine wregion (.tk 0 (.ef 1 (.ef 2 (.done)))) [2] rfl (by kernel_rfl) (by kernel_rfl) ?_
  refine k_loadA (n := 4) (xs := ints .u64 a0) 0 rfl (by kernel_rfl) (by kernel_rfl) s1_e354 (hp.get (j := 0) rfl) rfl rfl ((ints_length _ _).trans la0) (fun m v hm => by rw [Nat.zero_add]; exact hm) ?_
  obtain ⟨r3, qr3, h⟩ := bd_e h
  refine k_call [.agg (ints .u64 a0).toArray] rfl (by kernel_rfl) (args1 rfl) (postilionref04_Least_ok k a0 la0 _ (hp.toR (fun _ h => by cases h)) qr3) ?_
  rintro _ w' ⟨_, rfl, rfl, lr30, hpc⟩
  refine ⟨_, rfl, .inr (.of_below hpc.chg.to_below), ?_⟩; have hp := hp.below hpc.chg.to_below; clear hpc
  refine k_storeA (v := .agg (ints .u64 r3).toArray) 0 0 (r := ⟨g1, 0, ints .u64 a0⟩) (ints .u64 r3) (ints .u64 r3) rfl (n := 4) (by kernel_rfl) s1_e354 rfl rfl ((ints_length _ _).trans lr30) (ints_one _ _) hp rfl rfl rfl (Nat.le_of_eq ((Nat.zero_add _).trans ((ints_length _ _).trans la0).symm)) (setMany_all _ _ (((ints_length _ _).trans lr30).trans ((ints_length _ _).trans la0).symm)) (by decide) ?_; intro w hp
  refine k_end ?_; intro e355 qe355
  have s1_e355 : e355 1 = .pointer (some ⟨g1, 0, none⟩) := (congrFun qe355 1).trans s1_e354
  have s2_e355 : e355 2 = .pointer (some ⟨g2, 0, none⟩) := (congrFun qe355 2).trans s2_e354
  clear qe355
  refine wseq rfl ?_
  refine wregion (.ef 0 (.done)) [] rfl (by kernel_rfl) (by kernel_rfl) ?_
  refine k_alloc (ints .u8 (List.replicate 32 (0 : Int))) rfl (by kernel_rfl) hp ?_
  intro g4 w hbg4 hp
  refine k_end ?_; intro e356 qe356
  have s1_e356 : e356 1 = .pointer (some ⟨g1, 0, none⟩) := (congrFun qe356 1).trans s1_e355
  have s2_e356 : e356 2 = .pointer (some ⟨g2, 0, none⟩) := (congrFun qe356 2).trans s2_e355
  have s3_e356 : e356 3 = .pointer (some ⟨g4, 0, none⟩) := congrFun qe356 3
  clear qe356
  refine wseq rfl ?_
  refine wseq rfl ?_
  refine wregion (.tp 0 (.done)) [] rfl (by kernel_rfl) (by kernel_rfl) ?_
  refine k_move (v := .int .i64 0) rfl rfl ?_
  refine k_end ?_; intro e357 qe357
  have s1_e357 : e357 1 = .pointer (some ⟨g1, 0, none⟩) := (congrFun qe357 1).trans s1_e356
  have s2_e357 : e357 2 = .pointer (some ⟨g2, 0, none⟩) := (congrFun qe357 2).trans s2_e356
  have s3_e357 : e357 3 = .pointer (some ⟨g4, 0, none⟩) := (congrFun qe357 3).trans s3_e356
  have s7_e357 : e357 7 = .int .i64 0 := congrFun qe357 7
  clear qe357
  refine wblock rfl ?_
  obtain ⟨r11, qr11, h⟩ := bd_e h
  refine wloop k rfl (postilionref04_Bytes.p1_ok g1 g2 g4 r3 lr30 ?hq0 k (List.replicate 32 (0 : Int)) 0 e357 _ List.length_replicate s1_e357 s2_e357 s3_e357 s7_e357 hp qr11)
  case hq0 =>
    intro e362 w m12 lm12 s2_e362 s3_e362 hp qq
    rw [qq] at h; clear qq
    refine wseq rfl ?_
    refine wregion (.tk 0 (.ef 1 (.done))) [1] rfl (by kernel_rfl) (by kernel_rfl) ?_
    refine k_loadA (n := 32) (xs := ints .u8 m12) 0 rfl (by kernel_rfl) (by kernel_rfl) s3_e362 (hp.get (j := 2) rfl) rfl rfl ((ints_length _ _).trans lm12) (fun m v hm => by rw [Nat.zero_add]; exact hm) ?_
    refine k_storeA (v := .agg (ints .u8 m12).toArray) 1 0 (r := ⟨g2, 0, ints .u8 (List.replicate 32 (0 : Int))⟩) (ints .u8 m12) (ints .u8 m12) rfl (n := 32) (by kernel_rfl) s2_e362 rfl rfl ((ints_length _ _).trans lm12) (ints_one _ _) hp rfl rfl rfl (Nat.le_of_eq ((Nat.zero_add _).trans ((ints_length _ _).trans List.length_replicate).symm)) (setMany_all _ _ (((ints_length _ _).trans lm12).trans ((ints_length _ _).trans List.length_replicate).symm)) (by decide) ?_; intro w hp
    refine k_end ?_; intro e363 qe363
    have s2_e363 : e363 2 = .pointer (some ⟨g2, 0, none⟩) := (congrFun qe363 2).trans s2_e362
    clear qe363
    refine wret rfl ?_
    have hr : r = m12 := (Option.some.inj h).symm
    show RetP _ _ _ _ _
    rw [hr]
    exact ret_i [.agg (ints .u8 m12).toArray] (res_cell s2_e363 (loadVar_agg (by kernel_rfl) (by kernel_rfl) ((ints_length _ _).trans lm12) (hp.get (j := 1) rfl) rfl rfl rfl) res_nil) ⟨rfl, lm12, hp.none⟩
/-! 15 postilion/postilionref04.Sqrt -/
theorem postilionref04_Sqrt.p1_ok {w0 : World} {Ws : List Wr} {Q : Exit → Env → World → Prop} (k : Nat) (g1 g2 g5 : Nat) (r4 : List Int × Bool) (a0 : List Int) (l_a0 : a0.length = 32) (l_r4_1 : r4.1.length = 4) {r : List Int} (hQ0 : ∀ (e' : Env) (w' : World) (z0 : List Int), z0.length = 4 → e' 2 = .pointer (some ⟨g2, 0, none⟩) → e' 4 = .pointer (some ⟨g5, 0, none⟩) → Hp w0 Ws w' [⟨g1, 0, ints .u8 a0⟩, ⟨g2, 0, ints .u8 (List.replicate 32 (0 : Int))⟩, ⟨g5, 0, ints .u64 z0⟩] [] → r = (z0) → Q .normal e' w') (e : Env) (w : World) (s2_e : e 2 = .pointer (some ⟨g2, 0, none⟩)) (s4_e : e 4 = .pointer (some ⟨g5, 0, none⟩)) (s18_e : e 18 = .bool ((Int.tmod (r4.1.getD 0 0) 2) == 1)) (hp : Hp w0 Ws w [⟨g1, 0, ints .u8 a0⟩, ⟨g2, 0, ints .u8 (List.replicate 32 (0 : Int))⟩, ⟨g5, 0, ints .u64 r4.1⟩] []) (h : postilionref04_Sqrt.p1 k r4 = some r) : Wp Try.prog Try.f15.ntmps (at_ (fbody Try.f15) [1, 1, 1, 0, 1]) Q e w := by
  unfold postilionref04_Sqrt.p1 at h
  refine wcond (t := ((Int.tmod (r4.1.getD 0 0) 2) == 1)) rfl (by decide) s18_e (fun hb => ?_) (fun hb => ?_)
  · replace h := br_t hb h
    refine wregion_m (.tk 1 (.ef 0 (.ef 2 (.ef 3 (.done))))) [3] [(0, 15, 15), (0, 0, 0), (3, 15, 15), (7, 15, 15)] rfl (by kernel_rfl) (by kernel_rfl) (Nat.le_of_ble_eq_true (by kernel_rfl)) (by kernel_rfl) (by kernel_rfl) ?_
    have hp := hp.drew
    refine k_loadA (n := 4) (xs := ints .u64 r4.1) 0 rfl (by kernel_rfl) (by kernel_rfl) s4_e (hp.get (j := 2) rfl) rfl rfl ((ints_length _ _).trans l_r4_1) (fun m v hm => by rw [Nat.zero_add]; exact hm) ?_
    obtain ⟨r6, qr6, h⟩ := bd_e h
    refine k_call [.int .u64 0] rfl (by kernel_rfl) (args1 rfl) (postilionref04_Small_ok 0  _ (hp.toR (fun _ h => by cases h)) qr6) ?_
    rintro _ w' ⟨_, rfl, rfl, lr60, hpc⟩
    refine ⟨_, rfl, .inr (.of_below hpc.chg.to_below), ?_⟩; have hp := hp.below hpc.chg.to_below; clear hpc
    obtain ⟨r7, qr7, h⟩ := bd_e h
    refine k_call [.agg (ints .u64 r6).toArray, .agg (ints .u64 r4.1).toArray] rfl (by kernel_rfl) (args2 rfl rfl) (postilionref04_Minus_ok k r6 r4.1 lr60 l_r4_1 _ (hp.toR (fun _ h => by cases h)) qr7) ?_
    rintro _ w' ⟨_, rfl, rfl, lr70, hpc⟩
    refine ⟨_, rfl, .inr (.of_below hpc.chg.to_below), ?_⟩; have hp := hp.below hpc.chg.to_below; clear hpc
    refine k_storeA (v := .agg (ints .u64 r7).toArray) 2 0 (r := ⟨g5, 0, ints .u64 r4.1⟩) (ints .u64 r7) (ints .u64 r7) rfl (n := 4) (by kernel_rfl) s4_e rfl rfl ((ints_length _ _).trans lr70) (ints_one _ _) hp rfl rfl rfl (Nat.le_of_eq ((Nat.zero_add _).trans ((ints_length _ _).trans l_r4_1).symm)) (setMany_all _ _ (((ints_length _ _).trans lr70).trans ((ints_length _ _).trans l_r4_1).symm)) (by decide) ?_; intro w hp
    refine k_end ?_; intro e369 qe369
    have s2_e369 : e369 2 = .pointer (some ⟨g2, 0, none⟩) := (congrFun qe369 2).trans s2_e
    have s4_e369 : e369 4 = .pointer (some ⟨g5, 0, none⟩) := (congrFun qe369 4).trans s4_e
    clear qe369
    exact hQ0 _ _ r7 lr70 s2_e369 s4_e369 (hp.drop (L' := [⟨g1, 0, ints .u8 a0⟩, ⟨g2, 0, ints .u8 (List.replicate 32 (0 : Int))⟩, ⟨g5, 0, ints .u64 r7⟩]) (List.Sublist.refl _)) (Option.some.inj h).symm
  · replace h := br_f hb h
    refine wskip rfl ?_
    exact hQ0 _ _ r4.1 l_r4_1 s2_e s4_e (hp.drop (L' := [⟨g1, 0, ints .u8 a0⟩, ⟨g2, 0, ints .u8 (List.replicate 32 (0 : Int))⟩, ⟨g5, 0, ints .u64 r4.1⟩]) (List.Sublist.refl _)) (Option.some.inj h).symm
theorem postilionref04_Sqrt_ok (k : Nat) (a0 : List Int) (la0 : a0.length = 32) (w0 : World) (hp : Hp w0 [] w0 [] []) {r : List Int × Int} (h : postilionref04_Sqrt.f k a0 = some r) :
    Calls Try.prog 15 [.agg (ints .u8 a0).toArray].toArray w0 fun x w' => ∃ v, x = .returned v ∧ v = .tuple #[.agg (ints .u8 r.1).toArray, .int .i64 r.2] ∧ r.1.length = 32 ∧ Hp w0 [] w' [] [] := by
  refine calls_in Try.func15 rfl (Nat.le_of_ble_eq_true (by kernel_rfl)) (by kernel_rfl) ?_
  intro e0 qe0
  have s0_e0 : e0 0 = .agg (ints .u8 a0).toArray := congrFun qe0 0
  clear qe0
  unfold postilionref04_Sqrt.f at h
  refine wseq rfl ?_
  refine wregion (.ef 0 (.ef 1 (.tp 2 (.done)))) [] rfl (by kernel_rfl) (by kernel_rfl) ?_
  refine k_box (v := .agg (ints .u8 a0).toArray) (ints .u8 a0) rfl s0_e0 rfl hp ?_
  intro g1 w hbg1 hp
  refine k_alloc (ints .u8 (List.replicate 32 (0 : Int))) rfl (by kernel_rfl) hp ?_
  intro g2 w hbg2 hp
  refine k_assign (v := .int .i64 0) rfl rfl ?_
  refine k_end ?_; intro e364 qe364
  have s1_e364 : e364 1 = .pointer (some ⟨g1, 0, none⟩) := congrFun qe364 1
  have s2_e364 : e364 2 = .pointer (some ⟨g2, 0, none⟩) := congrFun qe364 2
  clear qe364
  refine wseq rfl ?_
  refine wregion (.tk 0 (.ef 1 (.ef 2 (.tp 3 (.tp 4 (.tp 5 (.ef 6 (.ef 7 (.tp 8 (.done)))))))))) [7] rfl (by kernel_rfl) (by kernel_rfl) ?_
  refine k_loadA (n := 32) (xs := ints .u8 a0) 0 rfl (by kernel_rfl) (by kernel_rfl) s1_e364 (hp.get (j := 0) rfl) rfl rfl ((ints_length _ _).trans la0) (fun m v hm => by rw [Nat.zero_add]; exact hm) ?_
  obtain ⟨r3, qr3, h⟩ := bd_e h
  refine k_call [.agg (ints .u8 a0).toArray] rfl (by kernel_rfl) (args1 rfl) (postilionref04_From_ok k a0 la0 _ (hp.toR (fun _ h => by cases h)) qr3) ?_
  rintro _ w' ⟨_, rfl, rfl, lr30, hpc⟩
  refine ⟨_, rfl, .inr (.of_below hpc.chg.to_below), ?_⟩; have hp := hp.below hpc.chg.to_below; clear hpc
  obtain ⟨r4, qr4, h⟩ := bd_e h
  refine k_call [.agg (ints .u64 r3).toArray] rfl (by kernel_rfl) (args1 rfl) (postilionref04_Root_ok k r3 lr30 _ (hp.toR (fun _ h => by cases h)) qr4) ?_
  rintro _ w' ⟨_, rfl, rfl, lr40, hpc⟩
  refine ⟨_, rfl, .inr (.of_below hpc.chg.to_below), ?_⟩; have hp := hp.below hpc.chg.to_below; clear hpc
  refine k_move (v := .tuple #[.agg (ints .u64 r4.1).toArray, .bool r4.2]) rfl rfl ?_
  refine k_extract (v := .agg (ints .u64 r4.1).toArray) rfl rfl rfl ?_
  refine k_extract (v := .bool r4.2) rfl rfl rfl ?_
  refine k_alloc (ints .u64 (List.replicate 4 (0 : Int))) rfl (by kernel_rfl) hp ?_
  intro g5 w hbg5 hp
  refine k_storeA (v := .agg (ints .u64 r4.1).toArray) 2 0 (r := ⟨g5, 0, ints .u64 (List.replicate 4 (0 : Int))⟩) (ints .u64 r4.1) (ints .u64 r4.1) rfl (n := 4) (by kernel_rfl) rfl rfl rfl ((ints_length _ _).trans lr40) (ints_one _ _) hp rfl rfl rfl (Nat.le_of_eq ((Nat.zero_add _).trans ((ints_length _ _).trans List.length_replicate).symm)) (setMany_all _ _ (((ints_length _ _).trans lr40).trans ((ints_length _ _).trans List.length_replicate).symm)) (by decide) ?_; intro w hp
  refine k_assign (v := .bool r4.2) rfl rfl ?_
  refine k_end ?_; intro e365 qe365
  have s2_e365 : e365 2 = .pointer (some ⟨g2, 0, none⟩) := (congrFun qe365 2).trans s2_e364
  have s4_e365 : e365 4 = .pointer (some ⟨g5, 0, none⟩) := congrFun qe365 4
  have s5_e365 : e365 5 = .bool r4.2 := congrFun qe365 5
  clear qe365
  refine wseq rfl ?_
  refine wseq rfl ?_
  refine wregion (.tp 0 (.tp 1 (.done))) [] rfl (by kernel_rfl) (by kernel_rfl) ?_
  refine k_move (v := .bool r4.2) rfl s5_e365 ?_
  refine k_not (b := r4.2) rfl rfl ?_
  refine k_end ?_; intro e366 qe366
  have s2_e366 : e366 2 = .pointer (some ⟨g2, 0, none⟩) := (congrFun qe366 2).trans s2_e365
  have s4_e366 : e366 4 = .pointer (some ⟨g5, 0, none⟩) := (congrFun qe366 4).trans s4_e365
  have s13_e366 : e366 13 = .bool (!r4.2) := congrFun qe366 13
  clear qe366
  refine wcond (t := (!r4.2)) rfl (by decide) s13_e366 (fun hb => ?_) (fun hb => ?_)
  · replace h := br_t hb h
    refine wseq rfl ?_
    refine wregion (.tp 0 (.ef 1 (.tp 2 (.done)))) [1] rfl (by kernel_rfl) (by kernel_rfl) ?_
    refine k_build (v := .agg (ints .u8 (List.replicate 32 (0 : Int))).toArray) rfl (fun _ => by kernel_rfl) ?_
    refine k_storeA (v := .agg (ints .u8 (List.replicate 32 (0 : Int))).toArray) 1 0 (r := ⟨g2, 0, ints .u8 (List.replicate 32 (0 : Int))⟩) (ints .u8 (List.replicate 32 (0 : Int))) (ints .u8 (List.replicate 32 (0 : Int))) rfl (n := 32) (by kernel_rfl) s2_e366 rfl rfl ((ints_length _ _).trans List.length_replicate) (ints_one _ _) hp rfl rfl rfl (Nat.le_of_eq ((Nat.zero_add _).trans ((ints_length _ _).trans List.length_replicate).symm)) (setMany_all _ _ (((ints_length _ _).trans List.length_replicate).trans ((ints_length _ _).trans List.length_replicate).symm)) (by decide) ?_; intro w hp
    refine k_assign (v := .int .i64 3) rfl rfl ?_
    refine k_end ?_; intro e367 qe367
    have s2_e367 : e367 2 = .pointer (some ⟨g2, 0, none⟩) := (congrFun qe367 2).trans s2_e366
    have s3_e367 : e367 3 = .int .i64 3 := congrFun qe367 3
    clear qe367
    refine wret rfl ?_
    have hr : r = ((List.replicate 32 (0 : Int)), 3) := (Option.some.inj h).symm
    show RetP _ _ _ _ _
    rw [hr]
    exact ret_i [.agg (ints .u8 (List.replicate 32 (0 : Int))).toArray, .int .i64 3] (res_cell s2_e367 (loadVar_agg (by kernel_rfl) (by kernel_rfl) ((ints_length _ _).trans List.length_replicate) (hp.get (j := 1) rfl) rfl rfl rfl) (res_tmp s3_e367 res_nil)) ⟨rfl, List.length_replicate, hp.none⟩
  · replace h := br_f hb h
    refine wskip rfl ?_
    refine wseq rfl ?_
    refine wseq rfl ?_
    refine wregion (.tp 0 (.tk 1 (.tp 2 (.tp 3 (.done))))) [] rfl (by kernel_rfl) (by kernel_rfl) ?_
    refine k_indexA (n := 4) (s := 1) (j := 0) rfl Try.underlying42 (by kernel_rfl) s4_e366 rfl (by decide) ?_
    refine k_load (j := 0) (v := .int .u64 (r4.1.getD 0 0)) rfl (by kernel_rfl) rfl (hp.get (j := 2) rfl) rfl rfl (ints_get (Nat.lt_of_lt_of_eq (m := 4) (by decide) (lr40).symm)) ?_
    refine k_rem (a := (r4.1.getD 0 0)) (b := 2) rfl rfl rfl (by decide) ?_
    refine k_bin (X := .int .u64 (Int.tmod (r4.1.getD 0 0) 2)) (Y := .int .u64 1) rfl rfl rfl rfl ?_
    refine k_end ?_; intro e368 qe368
    have s2_e368 : e368 2 = .pointer (some ⟨g2, 0, none⟩) := (congrFun qe368 2).trans s2_e366
    have s4_e368 : e368 4 = .pointer (some ⟨g5, 0, none⟩) := (congrFun qe368 4).trans s4_e366
    have s18_e368 : e368 18 = .bool ((Int.tmod (r4.1.getD 0 0) 2) == 1) := congrFun qe368 18
    clear qe368
    obtain ⟨r8, qr8, h⟩ := bd_e h
    refine postilionref04_Sqrt.p1_ok k g1 g2 g5 r4 a0 la0 lr40 ?hq0 e368 _ s2_e368 s4_e368 s18_e368 hp qr8
    case hq0 =>
      intro e370 w m9 lm9 s2_e370 s4_e370 hp qq
      rw [qq] at h; clear qq
      refine wseq rfl ?_
      refine wregion (.tk 0 (.ef 1 (.ef 2 (.tp 3 (.done))))) [2] rfl (by kernel_rfl) (by kernel_rfl) ?_
      refine k_loadA (n := 4) (xs := ints .u64 m9) 0 rfl (by kernel_rfl) (by kernel_rfl) s4_e370 (hp.get (j := 2) rfl) rfl rfl ((ints_length _ _).trans lm9) (fun m v hm => by rw [Nat.zero_add]; exact hm) ?_
      obtain ⟨r10, qr10, h⟩ := bd_e h
      refine k_call [.agg (ints .u64 m9).toArray] rfl (by kernel_rfl) (args1 rfl) (postilionref04_Bytes_ok k m9 lm9 _ (hp.toR (fun _ h => by cases h)) qr10) ?_
      rintro _ w' ⟨_, rfl, rfl, lr100, hpc⟩
      refine ⟨_, rfl, .inr (.of_below hpc.chg.to_below), ?_⟩; have hp := hp.below hpc.chg.to_below; clear hpc
      refine k_storeA (v := .agg (ints .u8 r10).toArray) 1 0 (r := ⟨g2, 0, ints .u8 (List.replicate 32 (0 : Int))⟩) (ints .u8 r10) (ints .u8 r10) rfl (n := 32) (by kernel_rfl) s2_e370 rfl rfl ((ints_length _ _).trans lr100) (ints_one _ _) hp rfl rfl rfl (Nat.le_of_eq ((Nat.zero_add _).trans ((ints_length _ _).trans List.length_replicate).symm)) (setMany_all _ _ (((ints_length _ _).trans lr100).trans ((ints_length _ _).trans List.length_replicate).symm)) (by decide) ?_; intro w hp
      refine k_assign (v := .int .i64 0) rfl rfl ?_
      refine k_end ?_; intro e371 qe371
      have s2_e371 : e371 2 = .pointer (some ⟨g2, 0, none⟩) := (congrFun qe371 2).trans s2_e370
      have s3_e371 : e371 3 = .int .i64 0 := congrFun qe371 3
      clear qe371
      refine wret rfl ?_
      have hr : r = (r10, 0) := (Option.some.inj h).symm
      show RetP _ _ _ _ _
      rw [hr]
      exact ret_i [.agg (ints .u8 r10).toArray, .int .i64 0] (res_cell s2_e371 (loadVar_agg (by kernel_rfl) (by kernel_rfl) ((ints_length _ _).trans lr100) (hp.get (j := 1) rfl) rfl rfl rfl) (res_tmp s3_e371 res_nil)) ⟨rfl, lr100, hp.none⟩
/-! 16 postilion/postilionref04.Canonical -/
theorem postilionref04_Canonical_ok (k : Nat) (a0 : List Int) (la0 : a0.length = 32) (w0 : World) (hp : Hp w0 [] w0 [] []) {r : Bool} (h : postilionref04_Canonical.f k a0 = some r) :
    Calls Try.prog 16 [.agg (ints .u8 a0).toArray].toArray w0 fun x w' => ∃ v, x = .returned v ∧ v = .bool r ∧ Hp w0 [] w' [] [] := by
  refine calls_in Try.func16 rfl (Nat.le_of_ble_eq_true (by kernel_rfl)) (by kernel_rfl) ?_
  intro e0 qe0
  have s0_e0 : e0 0 = .agg (ints .u8 a0).toArray := congrFun qe0 0
  clear qe0
  unfold postilionref04_Canonical.f at h
  refine wseq rfl ?_
  refine wregion (.ef 0 (.tp 1 (.done))) [] rfl (by kernel_rfl) (by kernel_rfl) ?_
  refine k_box (v := .agg (ints .u8 a0).toArray) (ints .u8 a0) rfl s0_e0 rfl hp ?_
  intro g1 w hbg1 hp
  refine k_assign (v := .bool false) rfl rfl ?_
  refine k_end ?_; intro e372 qe372
  have s1_e372 : e372 1 = .pointer (some ⟨g1, 0, none⟩) := congrFun qe372 1
  clear qe372
  refine wseq rfl ?_
  refine wregion (.tk 0 (.ef 1 (.ef 2 (.ef 3 (.tp 4 (.done)))))) [] rfl (by kernel_rfl) (by kernel_rfl) ?_
  refine k_loadA (n := 32) (xs := ints .u8 a0) 0 rfl (by kernel_rfl) (by kernel_rfl) s1_e372 (hp.get (j := 0) rfl) rfl rfl ((ints_length _ _).trans la0) (fun m v hm => by rw [Nat.zero_add]; exact hm) ?_
  obtain ⟨r2, qr2, h⟩ := bd_e h
  refine k_call [.agg (ints .u8 a0).toArray] rfl (by kernel_rfl) (args1 rfl) (postilionref04_From_ok k a0 la0 _ (hp.toR (fun _ h => by cases h)) qr2) ?_
  rintro _ w' ⟨_, rfl, rfl, lr20, hpc⟩
  refine ⟨_, rfl, .inr (.of_below hpc.chg.to_below), ?_⟩; have hp := hp.below hpc.chg.to_below; clear hpc
  obtain ⟨r3, qr3, h⟩ := bd_e h
  refine k_call [] rfl (by kernel_rfl) (args0 ) (postilionref04_p_ok   _ (hp.toR (fun _ h => by cases h)) qr3) ?_
  rintro _ w' ⟨_, rfl, rfl, lr30, hpc⟩
  refine ⟨_, rfl, .inr (.of_below hpc.chg.to_below), ?_⟩; have hp := hp.below hpc.chg.to_below; clear hpc
  obtain ⟨r4, qr4, h⟩ := bd_e h
  refine k_call [.agg (ints .u64 r2).toArray, .agg (ints .u64 r3).toArray] rfl (by kernel_rfl) (args2 rfl rfl) (postilionref04_below_ok k r2 r3 lr20 lr30 _ (hp.toR (fun _ h => by cases h)) qr4) ?_
  rintro _ w' ⟨_, rfl, rfl, hpc⟩
  refine ⟨_, rfl, .inr (.of_below hpc.chg.to_below), ?_⟩; have hp := hp.below hpc.chg.to_below; clear hpc
  refine k_assign (v := .bool r4) rfl rfl ?_
  refine k_end ?_; intro e373 qe373
  have s2_e373 : e373 2 = .bool r4 := congrFun qe373 2
  clear qe373
  refine wret rfl ?_
  have hr : r = r4 := (Option.some.inj h).symm
  show RetP _ _ _ _ _
  rw [hr]
  exact ret_i [.bool r4] (res_tmp s2_e373 res_nil) ⟨rfl, hp.none⟩
/-! 17 postilion/postilionref04.Add -/
theorem postilionref04_Add_ok (k : Nat) (a0 : List Int) (a1 : List Int) (la0 : a0.length = 32) (la1 : a1.length = 32) (w0 : World) (hp : Hp w0 [] w0 [] []) {r : List Int} (h : postilionref04_Add.f k a0 a1 = some r) :
    Calls Try.prog 17 [.agg (ints .u8 a0).toArray, .agg (ints .u8 a1).toArray].toArray w0 fun x w' => ∃ v, x = .returned v ∧ v = .agg (ints .u8 r).toArray ∧ r.length = 32 ∧ Hp w0 [] w' [] [] := by
  refine calls_in Try.func17 rfl (Nat.le_of_ble_eq_true (by kernel_rfl)) (by kernel_rfl) ?_
  intro e0 qe0
  have s0_e0 : e0 0 = .agg (ints .u8 a0).toArray := congrFun qe0 0
  have s1_e0 : e0 1 = .agg (ints .u8 a1).toArray := congrFun qe0 1
  clear qe0
  unfold postilionref04_Add.f at h
  refine wseq rfl ?_
  refine wregion (.ef 0 (.ef 1 (.ef 2 (.done)))) [] rfl (by kernel_rfl) (by kernel_rfl) ?_
  refine k_box (v := .agg (ints .u8 a0).toArray) (ints .u8 a0) rfl s0_e0 rfl hp ?_
  intro g1 w hbg1 hp
  refine k_box (v := .agg (ints .u8 a1).toArray) (ints .u8 a1) rfl s1_e0 rfl hp ?_
  intro g2 w hbg2 hp
  refine k_alloc (ints .u8 (List.replicate 32 (0 : Int))) rfl (by kernel_rfl) hp ?_
  intro g3 w hbg3 hp
  refine k_end ?_; intro e374 qe374
  have s2_e374 : e374 2 = .pointer (some ⟨g1, 0, none⟩) := congrFun qe374 2
  have s3_e374 : e374 3 = .pointer (some ⟨g2, 0, none⟩) := congrFun qe374 3
  have s4_e374 : e374 4 = .pointer (some ⟨g3, 0, none⟩) := congrFun qe374 4
  clear qe374
  refine wseq rfl ?_
  refine wregion_m (.tk 0 (.tk 2 (.ef 1 (.ef 3 (.ef 4 (.ef 5 (.ef 6 (.done)))))))) [6] [(0, 0, 0), (1, 127, 127), (0, 0, 0), (6, 127, 127), (10, 127, 127), (16, 127, 127), (63, 127, 127)] rfl (by kernel_rfl) (by kernel_rfl) (Nat.le_of_ble_eq_true (by kernel_rfl)) (by kernel_rfl) (by kernel_rfl) ?_
  have hp := hp.drew
  refine k_loadA (n := 32) (xs := ints .u8 a0) 0 rfl (by kernel_rfl) (by kernel_rfl) s2_e374 (hp.get (j := 0) rfl) rfl rfl ((ints_length _ _).trans la0) (fun m v hm => by rw [Nat.zero_add]; exact hm) ?_
  refine k_loadA (n := 32) (xs := ints .u8 a1) 0 rfl (by kernel_rfl) (by kernel_rfl) s3_e374 (hp.get (j := 1) rfl) rfl rfl ((ints_length _ _).trans la1) (fun m v hm => by rw [Nat.zero_add]; exact hm) ?_
  obtain ⟨r4, qr4, h⟩ := bd_e h
  refine k_call [.agg (ints .u8 a0).toArray] rfl (by kernel_rfl) (args1 rfl) (postilionref04_From_ok k a0 la0 _ (hp.toR (fun _ h => by cases h)) qr4) ?_
  rintro _ w' ⟨_, rfl, rfl, lr40, hpc⟩
  refine ⟨_, rfl, .inr (.of_below hpc.chg.to_below), ?_⟩; have hp := hp.below hpc.chg.to_below; clear hpc
  obtain ⟨r5, qr5, h⟩ := bd_e h
  refine k_call [.agg (ints .u8 a1).toArray] rfl (by kernel_rfl) (args1 rfl) (postilionref04_From_ok k a1 la1 _ (hp.toR (fun _ h => by cases h)) qr5) ?_
  rintro _ w' ⟨_, rfl, rfl, lr50, hpc⟩
  refine ⟨_, rfl, .inr (.of_below hpc.chg.to_below), ?_⟩; have hp := hp.below hpc.chg.to_below; clear hpc
  obtain ⟨r6, qr6, h⟩ := bd_e h
  refine k_call [.agg (ints .u64 r4).toArray, .agg (ints .u64 r5).toArray] rfl (by kernel_rfl) (args2 rfl rfl) (postilionref04_Plus_ok k r4 r5 lr40 lr50 _ (hp.toR (fun _ h => by cases h)) qr6) ?_
  rintro _ w' ⟨_, rfl, rfl, lr60, hpc⟩
  refine ⟨_, rfl, .inr (.of_below hpc.chg.to_below), ?_⟩; have hp := hp.below hpc.chg.to_below; clear hpc
  obtain ⟨r7, qr7, h⟩ := bd_e h
  refine k_call [.agg (ints .u64 r6).toArray] rfl (by kernel_rfl) (args1 rfl) (postilionref04_Bytes_ok k r6 lr60 _ (hp.toR (fun _ h => by cases h)) qr7) ?_
  rintro _ w' ⟨_, rfl, rfl, lr70, hpc⟩
  refine ⟨_, rfl, .inr (.of_below hpc.chg.to_below), ?_⟩; have hp := hp.below hpc.chg.to_below; clear hpc
  refine k_storeA (v := .agg (ints .u8 r7).toArray) 2 0 (r := ⟨g3, 0, ints .u8 (List.replicate 32 (0 : Int))⟩) (ints .u8 r7) (ints .u8 r7) rfl (n := 32) (by kernel_rfl) s4_e374 rfl rfl ((ints_length _ _).trans lr70) (ints_one _ _) hp rfl rfl rfl (Nat.le_of_eq ((Nat.zero_add _).trans ((ints_length _ _).trans List.length_replicate).symm)) (setMany_all _ _ (((ints_length _ _).trans lr70).trans ((ints_length _ _).trans List.length_replicate).symm)) (by decide) ?_; intro w hp
  refine k_end ?_; intro e375 qe375
  have s4_e375 : e375 4 = .pointer (some ⟨g3, 0, none⟩) := (congrFun qe375 4).trans s4_e374
  clear qe375
  refine wret rfl ?_
  have hr : r = r7 := (Option.some.inj h).symm
  show RetP _ _ _ _ _
  rw [hr]
  exact ret_i [.agg (ints .u8 r7).toArray] (res_cell s4_e375 (loadVar_agg (by kernel_rfl) (by kernel_rfl) ((ints_length _ _).trans lr70) (hp.get (j := 2) rfl) rfl rfl rfl) res_nil) ⟨rfl, lr70, hp.none⟩
/-! 18 postilion/postilionref04.Sub -/
theorem postilionref04_Sub_ok (k : Nat) (a0 : List Int) (a1 : List Int) (la0 : a0.length = 32) (la1 : a1.length = 32) (w0 : World) (hp : Hp w0 [] w0 [] []) {r : List Int} (h : postilionref04_Sub.f k a0 a1 = some r) :
    Calls Try.prog 18 [.agg (ints .u8 a0).toArray, .agg (ints .u8 a1).toArray].toArray w0 fun x w' => ∃ v, x = .returned v ∧ v = .agg (ints .u8 r).toArray ∧ r.length = 32 ∧ Hp w0 [] w' [] [] := by
  refine calls_in Try.func18 rfl (Nat.le_of_ble_eq_true (by kernel_rfl)) (by kernel_rfl) ?_
  intro e0 qe0
  have s0_e0 : e0 0 = .agg (ints .u8 a0).toArray := congrFun qe0 0
  have s1_e0 : e0 1 = .agg (ints .u8 a1).toArray := congrFun qe0 1
  clear qe0
  unfold postilionref04_Sub.f at h
  refine wseq rfl ?_
  refine wregion (.ef 0 (.ef 1 (.ef 2 (.done)))) [] rfl (by kernel_rfl) (by kernel_rfl) ?_
  refine k_box (v := .agg (ints .u8 a0).toArray) (ints .u8 a0) rfl s0_e0 rfl hp ?_
  intro g1 w hbg1 hp
  refine k_box (v := .agg (ints .u8 a1).toArray) (ints .u8 a1) rfl s1_e0 rfl hp ?_
  intro g2 w hbg2 hp
  refine k_alloc (ints .u8 (List.replicate 32 (0 : Int))) rfl (by kernel_rfl) hp ?_
  intro g3 w hbg3 hp
  refine k_end ?_; intro e376 qe376
  have s2_e376 : e376 2 = .pointer (some ⟨g1, 0, none⟩) := congrFun qe376 2
  have s3_e376 : e376 3 = .pointer (some ⟨g2, 0, none⟩) := congrFun qe376 3
  have s4_e376 : e376 4 = .pointer (some ⟨g3, 0, none⟩) := congrFun qe376 4
  clear qe376
  refine wseq rfl ?_
  refine wregion_m (.tk 0 (.tk 2 (.ef 1 (.ef 3 (.ef 4 (.ef 5 (.ef 6 (.done)))))))) [6] [(0, 0, 0), (1, 127, 127), (0, 0, 0), (6, 127, 127), (10, 127, 127), (16, 127, 127), (63, 127, 127)] rfl (by kernel_rfl) (by kernel_rfl) (Nat.le_of_ble_eq_true (by kernel_rfl)) (by kernel_rfl) (by kernel_rfl) ?_
  have hp := hp.drew
  refine k_loadA (n := 32) (xs := ints .u8 a0) 0 rfl (by kernel_rfl) (by kernel_rfl) s2_e376 (hp.get (j := 0) rfl) rfl rfl ((ints_length _ _).trans la0) (fun m v hm => by rw [Nat.zero_add]; exact hm) ?_
  refine k_loadA (n := 32) (xs := ints .u8 a1) 0 rfl (by kernel_rfl) (by kernel_rfl) s3_e376 (hp.get (j := 1) rfl) rfl rfl ((ints_length _ _).trans la1) (fun m v hm => by rw [Nat.zero_add]; exact hm) ?_
  obtain ⟨r4, qr4, h⟩ := bd_e h
  refine k_call [.agg (ints .u8 a0).toArray] rfl (by kernel_rfl) (args1 rfl) (postilionref04_From_ok k a0 la0 _ (hp.toR (fun _ h => by cases h)) qr4) ?_
  rintro _ w' ⟨_, rfl, rfl, lr40, hpc⟩
  refine ⟨_, rfl, .inr (.of_below hpc.chg.to_below), ?_⟩; have hp := hp.below hpc.chg.to_below; clear hpc
  obtain ⟨r5, qr5, h⟩ := bd_e h
  refine k_call [.agg (ints .u8 a1).toArray] rfl (by kernel_rfl) (args1 rfl) (postilionref04_From_ok k a1 la1 _ (hp.toR (fun _ h => by cases h)) qr5) ?_
  rintro _ w' ⟨_, rfl, rfl, lr50, hpc⟩
  refine ⟨_, rfl, .inr (.of_below hpc.chg.to_below), ?_⟩; have hp := hp.below hpc.chg.to_below; clear hpc
  obtain ⟨r6, qr6, h⟩ := bd_e h
  refine k_call [.agg (ints .u64 r4).toArray, .agg (ints .u64 r5).toArray] rfl (by kernel_rfl) (args2 rfl rfl) (postilionref04_Minus_ok k r4 r5 lr40 lr50 _ (hp.toR (fun _ h => by cases h)) qr6) ?_
  rintro _ w' ⟨_, rfl, rfl, lr60, hpc⟩
  refine ⟨_, rfl, .inr (.of_below hpc.chg.to_below), ?_⟩; have hp := hp.below hpc.chg.to_below; clear hpc
  obtain ⟨r7, qr7, h⟩ := bd_e h
  refine k_call [.agg (ints .u64 r6).toArray] rfl (by kernel_rfl) (args1 rfl) (postilionref04_Bytes_ok k r6 lr60 _ (hp.toR (fun _ h => by cases h)) qr7) ?_
  rintro _ w' ⟨_, rfl, rfl, lr70, hpc⟩
  refine ⟨_, rfl, .inr (.of_below hpc.chg.to_below), ?_⟩; have hp := hp.below hpc.chg.to_below; clear hpc
  refine k_storeA (v := .agg (ints .u8 r7).toArray) 2 0 (r := ⟨g3, 0, ints .u8 (List.replicate 32 (0 : Int))⟩) (ints .u8 r7) (ints .u8 r7) rfl (n := 32) (by kernel_rfl) s4_e376 rfl rfl ((ints_length _ _).trans lr70) (ints_one _ _) hp rfl rfl rfl (Nat.le_of_eq ((Nat.zero_add _).trans ((ints_length _ _).trans List.length_replicate).symm)) (setMany_all _ _ (((ints_length _ _).trans lr70).trans ((ints_length _ _).trans List.length_replicate).symm)) (by decide) ?_; intro w hp
  refine k_end ?_; intro e377 qe377
  have s4_e377 : e377 4 = .pointer (some ⟨g3, 0, none⟩) := (congrFun qe377 4).trans s4_e376
  clear qe377
  refine wret rfl ?_
  have hr : r = r7 := (Option.some.inj h).symm
  show RetP _ _ _ _ _
  rw [hr]
  exact ret_i [.agg (ints .u8 r7).toArray] (res_cell s4_e377 (loadVar_agg (by kernel_rfl) (by kernel_rfl) ((ints_length _ _).trans lr70) (hp.get (j := 2) rfl) rfl rfl rfl) res_nil) ⟨rfl, lr70, hp.none⟩
/-! 19 postilion/postilionref04.Mul -/
theorem postilionref04_Mul_ok (k : Nat) (a0 : List Int) (a1 : List Int) (la0 : a0.length = 32) (la1 : a1.length = 32) (w0 : World) (hp : Hp w0 [] w0 [] []) {r : List Int} (h : postilionref04_Mul.f k a0 a1 = some r) :
    Calls Try.prog 19 [.agg (ints .u8 a0).toArray, .agg (ints .u8 a1).toArray].toArray w0 fun x w' => ∃ v, x = .returned v ∧ v = .agg (ints .u8 r).toArray ∧ r.length = 32 ∧ Hp w0 [] w' [] [] := by
  refine calls_in Try.func19 rfl (Nat.le_of_ble_eq_true (by kernel_rfl)) (by kernel_rfl) ?_
  intro e0 qe0
  have s0_e0 : e0 0 = .agg (ints .u8 a0).toArray := congrFun qe0 0
  have s1_e0 : e0 1 = .agg (ints .u8 a1).toArray := congrFun qe0 1
  clear qe0
  unfold postilionref04_Mul.f at h
  refine wseq rfl ?_
  refine wregion (.ef 0 (.ef 1 (.ef 2 (.done)))) [] rfl (by kernel_rfl) (by kernel_rfl) ?_
  refine k_box (v := .agg (ints .u8 a0).toArray) (ints .u8 a0) rfl s0_e0 rfl hp ?_
  intro g1 w hbg1 hp
  refine k_box (v := .agg (ints .u8 a1).toArray) (ints .u8 a1) rfl s1_e0 rfl hp ?_
  intro g2 w hbg2 hp
  refine k_alloc (ints .u8 (List.replicate 32 (0 : Int))) rfl (by kernel_rfl) hp ?_
  intro g3 w hbg3 hp
  refine k_end ?_; intro e378 qe378
  have s2_e378 : e378 2 = .pointer (some ⟨g1, 0, none⟩) := congrFun qe378 2
  have s3_e378 : e378 3 = .pointer (some ⟨g2, 0, none⟩) := congrFun qe378 3
  have s4_e378 : e378 4 = .pointer (some ⟨g3, 0, none⟩) := congrFun qe378 4
  clear qe378
  refine wseq rfl ?_
  refine wregion_m (.tk 0 (.tk 2 (.ef 1 (.ef 3 (.ef 4 (.ef 5 (.ef 6 (.done)))))))) [6] [(0, 0, 0), (1, 127, 127), (0, 0, 0), (6, 127, 127), (10, 127, 127), (16, 127, 127), (63, 127, 127)] rfl (by kernel_rfl) (by kernel_rfl) (Nat.le_of_ble_eq_true (by kernel_rfl)) (by kernel_rfl) (by kernel_rfl) ?_
  have hp := hp.drew
  refine k_loadA (n := 32) (xs := ints .u8 a0) 0 rfl (by kernel_rfl) (by kernel_rfl) s2_e378 (hp.get (j := 0) rfl) rfl rfl ((ints_length _ _).trans la0) (fun m v hm => by rw [Nat.zero_add]; exact hm) ?_
  refine k_loadA (n := 32) (xs := ints .u8 a1) 0 rfl (by kernel_rfl) (by kernel_rfl) s3_e378 (hp.get (j := 1) rfl) rfl rfl ((ints_length _ _).trans la1) (fun m v hm => by rw [Nat.zero_add]; exact hm) ?_
  obtain ⟨r4, qr4, h⟩ := bd_e h
  refine k_call [.agg (ints .u8 a0).toArray] rfl (by kernel_rfl) (args1 rfl) (postilionref04_From_ok k a0 la0 _ (hp.toR (fun _ h => by cases h)) qr4) ?_
  rintro _ w' ⟨_, rfl, rfl, lr40, hpc⟩
  refine ⟨_, rfl, .inr (.of_below hpc.chg.to_below), ?_⟩; have hp := hp.below hpc.chg.to_below; clear hpc
  obtain ⟨r5, qr5, h⟩ := bd_e h
  refine k_call [.agg (ints .u8 a1).toArray] rfl (by kernel_rfl) (args1 rfl) (postilionref04_From_ok k a1 la1 _ (hp.toR (fun _ h => by cases h)) qr5) ?_
  rintro _ w' ⟨_, rfl, rfl, lr50, hpc⟩
  refine ⟨_, rfl, .inr (.of_below hpc.chg.to_below), ?_⟩; have hp := hp.below hpc.chg.to_below; clear hpc
  obtain ⟨r6, qr6, h⟩ := bd_e h
  refine k_call [.agg (ints .u64 r4).toArray, .agg (ints .u64 r5).toArray] rfl (by kernel_rfl) (args2 rfl rfl) (postilionref04_Times_ok k r4 r5 lr40 lr50 _ (hp.toR (fun _ h => by cases h)) qr6) ?_
  rintro _ w' ⟨_, rfl, rfl, lr60, hpc⟩
  refine ⟨_, rfl, .inr (.of_below hpc.chg.to_below), ?_⟩; have hp := hp.below hpc.chg.to_below; clear hpc
  obtain ⟨r7, qr7, h⟩ := bd_e h
  refine k_call [.agg (ints .u64 r6).toArray] rfl (by kernel_rfl) (args1 rfl) (postilionref04_Bytes_ok k r6 lr60 _ (hp.toR (fun _ h => by cases h)) qr7) ?_
  rintro _ w' ⟨_, rfl, rfl, lr70, hpc⟩
  refine ⟨_, rfl, .inr (.of_below hpc.chg.to_below), ?_⟩; have hp := hp.below hpc.chg.to_below; clear hpc
  refine k_storeA (v := .agg (ints .u8 r7).toArray) 2 0 (r := ⟨g3, 0, ints .u8 (List.replicate 32 (0 : Int))⟩) (ints .u8 r7) (ints .u8 r7) rfl (n := 32) (by kernel_rfl) s4_e378 rfl rfl ((ints_length _ _).trans lr70) (ints_one _ _) hp rfl rfl rfl (Nat.le_of_eq ((Nat.zero_add _).trans ((ints_length _ _).trans List.length_replicate).symm)) (setMany_all _ _ (((ints_length _ _).trans lr70).trans ((ints_length _ _).trans List.length_replicate).symm)) (by decide) ?_; intro w hp
  refine k_end ?_; intro e379 qe379
  have s4_e379 : e379 4 = .pointer (some ⟨g3, 0, none⟩) := (congrFun qe379 4).trans s4_e378
  clear qe379
  refine wret rfl ?_
  have hr : r = r7 := (Option.some.inj h).symm
  show RetP _ _ _ _ _
  rw [hr]
  exact ret_i [.agg (ints .u8 r7).toArray] (res_cell s4_e379 (loadVar_agg (by kernel_rfl) (by kernel_rfl) ((ints_length _ _).trans lr70) (hp.get (j := 2) rfl) rfl rfl rfl) res_nil) ⟨rfl, lr70, hp.none⟩
/-! 38 postilion/postilionref04.Inverse -/
theorem postilionref04_Inverse_ok (k : Nat) (a0 : List Int) (la0 : a0.length = 4) (w0 : World) (hp : Hp w0 [] w0 [] []) {r : List Int} (h : postilionref04_Inverse.f k a0 = some r) :
    Calls Try.prog 38 [.agg (ints .u64 a0).toArray].toArray w0 fun x w' => ∃ v, x = .returned v ∧ v = .agg (ints .u64 r).toArray ∧ r.length = 4 ∧ Hp w0 [] w' [] [] := by
  refine calls_in Try.func38 rfl (Nat.le_of_ble_eq_true (by kernel_rfl)) (by kernel_rfl) ?_
  intro e0 qe0
  have s0_e0 : e0 0 = .agg (ints .u64 a0).toArray := congrFun qe0 0
  clear qe0
  unfold postilionref04_Inverse.f at h
  refine wseq rfl ?_
  refine wregion (.ef 0 (.ef 1 (.done))) [] rfl (by kernel_rfl) (by kernel_rfl) ?_
  refine k_box (v := .agg (ints .u64 a0).toArray) (ints .u64 a0) rfl s0_e0 rfl hp ?_
  intro g1 w hbg1 hp
  refine k_alloc (ints .u64 (List.replicate 4 (0 : Int))) rfl (by kernel_rfl) hp ?_
  intro g2 w hbg2 hp
  refine k_end ?_; intro e380 qe380
  have s1_e380 : e380 1 = .pointer (some ⟨g1, 0, none⟩) := congrFun qe380 1
  have s2_e380 : e380 2 = .pointer (some ⟨g2, 0, none⟩) := congrFun qe380 2
  clear qe380
  refine wseq rfl ?_
  refine wregion (.ef 0 (.ef 1 (.ef 2 (.done)))) [2] rfl (by kernel_rfl) (by kernel_rfl) ?_
  obtain ⟨r3, qr3, h⟩ := bd_e h
  refine k_call [] rfl (by kernel_rfl) (args0 ) (postilionref04_p_ok   _ (hp.toR (fun _ h => by cases h)) qr3) ?_
  rintro _ w' ⟨_, rfl, rfl, lr30, hpc⟩
  refine ⟨_, rfl, .inr (.of_below hpc.chg.to_below), ?_⟩; have hp := hp.below hpc.chg.to_below; clear hpc
  refine k_alloc (ints .u64 (List.replicate 4 (0 : Int))) rfl (by kernel_rfl) hp ?_
  intro g4 w hbg4 hp
  refine k_storeA (v := .agg (ints .u64 r3).toArray) 2 0 (r := ⟨g4, 0, ints .u64 (List.replicate 4 (0 : Int))⟩) (ints .u64 r3) (ints .u64 r3) rfl (n := 4) (by kernel_rfl) rfl rfl rfl ((ints_length _ _).trans lr30) (ints_one _ _) hp rfl rfl rfl (Nat.le_of_eq ((Nat.zero_add _).trans ((ints_length _ _).trans List.length_replicate).symm)) (setMany_all _ _ (((ints_length _ _).trans lr30).trans ((ints_length _ _).trans List.length_replicate).symm)) (by decide) ?_; intro w hp
  refine k_end ?_; intro e381 qe381
  have s1_e381 : e381 1 = .pointer (some ⟨g1, 0, none⟩) := (congrFun qe381 1).trans s1_e380
  have s2_e381 : e381 2 = .pointer (some ⟨g2, 0, none⟩) := (congrFun qe381 2).trans s2_e380
  have s3_e381 : e381 3 = .pointer (some ⟨g4, 0, none⟩) := congrFun qe381 3
  clear qe381
  refine wseq rfl ?_
  refine wregion (.tp 0 (.tk 1 (.tp 2 (.tp 3 (.ef 4 (.done)))))) [4] rfl (by kernel_rfl) (by kernel_rfl) ?_
  refine k_indexA (n := 4) (s := 1) (j := 0) rfl Try.underlying42 (by kernel_rfl) s3_e381 rfl (by decide) ?_
  refine k_load (j := 0) (v := .int .u64 (r3.getD 0 0)) rfl (by kernel_rfl) rfl (hp.get (j := 2) rfl) rfl rfl (ints_get (Nat.lt_of_lt_of_eq (m := 4) (by decide) (lr30).symm)) ?_
  refine k_bin (X := .int .u64 (r3.getD 0 0)) (Y := .int .u64 2) rfl rfl rfl rfl ?_
  refine k_indexA (n := 4) (s := 1) (j := 0) rfl Try.underlying42 (by kernel_rfl) s3_e381 rfl (by decide) ?_
  refine k_store (v := .int .u64 (IntKind.u64.wrap ((r3.getD 0 0) - 2))) 2 0 (r := ⟨g4, 0, ints .u64 r3⟩) rfl (by kernel_rfl) rfl rfl rfl hp rfl rfl rfl (Nat.lt_of_lt_of_eq (Nat.lt_of_lt_of_eq (m := 4) (by decide) (lr30).symm) (ints_length _ _).symm) (by decide) ?_; intro w hp; rw [ints_set] at hp
  refine k_end ?_; intro e382 qe382
  have s1_e382 : e382 1 = .pointer (some ⟨g1, 0, none⟩) := (congrFun qe382 1).trans s1_e381
  have s2_e382 : e382 2 = .pointer (some ⟨g2, 0, none⟩) := (congrFun qe382 2).trans s2_e381
  have s3_e382 : e382 3 = .pointer (some ⟨g4, 0, none⟩) := (congrFun qe382 3).trans s3_e381
  clear qe382
  refine wseq rfl ?_
  refine wregion (.tk 0 (.tk 1 (.ef 2 (.ef 3 (.done))))) [3] rfl (by kernel_rfl) (by kernel_rfl) ?_
  refine k_loadA (n := 4) (xs := ints .u64 a0) 0 rfl (by kernel_rfl) (by kernel_rfl) s1_e382 (hp.get (j := 0) rfl) rfl rfl ((ints_length _ _).trans la0) (fun m v hm => by rw [Nat.zero_add]; exact hm) ?_
  refine k_loadA (n := 4) (xs := ints .u64 (r3.set 0 (IntKind.u64.wrap ((r3.getD 0 0) - 2)))) 0 rfl (by kernel_rfl) (by kernel_rfl) s3_e382 (hp.get (j := 2) rfl) rfl rfl ((ints_length _ _).trans (List.length_set.trans lr30)) (fun m v hm => by rw [Nat.zero_add]; exact hm) ?_
  obtain ⟨r5, qr5, h⟩ := bd_e h
  refine k_call [.agg (ints .u64 a0).toArray, .agg (ints .u64 (r3.set 0 (IntKind.u64.wrap ((r3.getD 0 0) - 2)))).toArray] rfl (by kernel_rfl) (args2 rfl rfl) (postilionref04_Power_ok k a0 (r3.set 0 (IntKind.u64.wrap ((r3.getD 0 0) - 2))) la0 (List.length_set.trans lr30) _ (hp.toR (fun _ h => by cases h)) qr5) ?_
  rintro _ w' ⟨_, rfl, rfl, lr50, hpc⟩
  refine ⟨_, rfl, .inr (.of_below hpc.chg.to_below), ?_⟩; have hp := hp.below hpc.chg.to_below; clear hpc
  refine k_storeA (v := .agg (ints .u64 r5).toArray) 1 0 (r := ⟨g2, 0, ints .u64 (List.replicate 4 (0 : Int))⟩) (ints .u64 r5) (ints .u64 r5) rfl (n := 4) (by kernel_rfl) s2_e382 rfl rfl ((ints_length _ _).trans lr50) (ints_one _ _) hp rfl rfl rfl (Nat.le_of_eq ((Nat.zero_add _).trans ((ints_length _ _).trans List.length_replicate).symm)) (setMany_all _ _ (((ints_length _ _).trans lr50).trans ((ints_length _ _).trans List.length_replicate).symm)) (by decide) ?_; intro w hp
  refine k_end ?_; intro e383 qe383
  have s2_e383 : e383 2 = .pointer (some ⟨g2, 0, none⟩) := (congrFun qe383 2).trans s2_e382
  clear qe383
  refine wret rfl ?_
  have hr : r = r5 := (Option.some.inj h).symm
  show RetP _ _ _ _ _
  rw [hr]
  exact ret_i [.agg (ints .u64 r5).toArray] (res_cell s2_e383 (loadVar_agg (by kernel_rfl) (by kernel_rfl) ((ints_length _ _).trans lr50) (hp.get (j := 1) rfl) rfl rfl rfl) res_nil) ⟨rfl, lr50, hp.none⟩
/-! 20 postilion/postilionref04.Inv -/
theorem postilionref04_Inv_ok (k : Nat) (a0 : List Int) (la0 : a0.length = 32) (w0 : World) (hp : Hp w0 [] w0 [] []) {r : List Int} (h : postilionref04_Inv.f k a0 = some r) :
    Calls Try.prog 20 [.agg (ints .u8 a0).toArray].toArray w0 fun x w' => ∃ v, x = .returned v ∧ v = .agg (ints .u8 r).toArray ∧ r.length = 32 ∧ Hp w0 [] w' [] [] := by
  refine calls_in Try.func20 rfl (Nat.le_of_ble_eq_true (by kernel_rfl)) (by kernel_rfl) ?_
  intro e0 qe0
  have s0_e0 : e0 0 = .agg (ints .u8 a0).toArray := congrFun qe0 0
  clear qe0
  unfold postilionref04_Inv.f at h
  refine wseq rfl ?_
  refine wregion (.ef 0 (.ef 1 (.done))) [] rfl (by kernel_rfl) (by kernel_rfl) ?_
  refine k_box (v := .agg (ints .u8 a0).toArray) (ints .u8 a0) rfl s0_e0 rfl hp ?_
  intro g1 w hbg1 hp
  refine k_alloc (ints .u8 (List.replicate 32 (0 : Int))) rfl (by kernel_rfl) hp ?_
  intro g2 w hbg2 hp
  refine k_end ?_; intro e384 qe384
  have s1_e384 : e384 1 = .pointer (some ⟨g1, 0, none⟩) := congrFun qe384 1
  have s2_e384 : e384 2 = .pointer (some ⟨g2, 0, none⟩) := congrFun qe384 2
  clear qe384
  refine wseq rfl ?_
  refine wregion (.tk 0 (.ef 1 (.ef 2 (.ef 3 (.ef 4 (.done)))))) [4] rfl (by kernel_rfl) (by kernel_rfl) ?_
  refine k_loadA (n := 32) (xs := ints .u8 a0) 0 rfl (by kernel_rfl) (by kernel_rfl) s1_e384 (hp.get (j := 0) rfl) rfl rfl ((ints_length _ _).trans la0) (fun m v hm => by rw [Nat.zero_add]; exact hm) ?_
  obtain ⟨r3, qr3, h⟩ := bd_e h
  refine k_call [.agg (ints .u8 a0).toArray] rfl (by kernel_rfl) (args1 rfl) (postilionref04_From_ok k a0 la0 _ (hp.toR (fun _ h => by cases h)) qr3) ?_
  rintro _ w' ⟨_, rfl, rfl, lr30, hpc⟩
  refine ⟨_, rfl, .inr (.of_below hpc.chg.to_below), ?_⟩; have hp := hp.below hpc.chg.to_below; clear hpc
  obtain ⟨r4, qr4, h⟩ := bd_e h
  refine k_call [.agg (ints .u64 r3).toArray] rfl (by kernel_rfl) (args1 rfl) (postilionref04_Inverse_ok k r3 lr30 _ (hp.toR (fun _ h => by cases h)) qr4) ?_
  rintro _ w' ⟨_, rfl, rfl, lr40, hpc⟩
  refine ⟨_, rfl, .inr (.of_below hpc.chg.to_below), ?_⟩; have hp := hp.below hpc.chg.to_below; clear hpc
  obtain ⟨r5, qr5, h⟩ := bd_e h
  refine k_call [.agg (ints .u64 r4).toArray] rfl (by kernel_rfl) (args1 rfl) (postilionref04_Bytes_ok k r4 lr40 _ (hp.toR (fun _ h => by cases h)) qr5) ?_
  rintro _ w' ⟨_, rfl, rfl, lr50, hpc⟩
  refine ⟨_, rfl, .inr (.of_below hpc.chg.to_below), ?_⟩; have hp := hp.below hpc.chg.to_below; clear hpc
  refine k_storeA (v := .agg (ints .u8 r5).toArray) 1 0 (r := ⟨g2, 0, ints .u8 (List.replicate 32 (0 : Int))⟩) (ints .u8 r5) (ints .u8 r5) rfl (n := 32) (by kernel_rfl) s2_e384 rfl rfl ((ints_length _ _).trans lr50) (ints_one _ _) hp rfl rfl rfl (Nat.le_of_eq ((Nat.zero_add _).trans ((ints_length _ _).trans List.length_replicate).symm)) (setMany_all _ _ (((ints_length _ _).trans lr50).trans ((ints_length _ _).trans List.length_replicate).symm)) (by decide) ?_; intro w hp
  refine k_end ?_; intro e385 qe385
  have s2_e385 : e385 2 = .pointer (some ⟨g2, 0, none⟩) := (congrFun qe385 2).trans s2_e384
  clear qe385
  refine wret rfl ?_
  have hr : r = r5 := (Option.some.inj h).symm
  show RetP _ _ _ _ _
  rw [hr]
  exact ret_i [.agg (ints .u8 r5).toArray] (res_cell s2_e385 (loadVar_agg (by kernel_rfl) (by kernel_rfl) ((ints_length _ _).trans lr50) (hp.get (j := 1) rfl) rfl rfl rfl) res_nil) ⟨rfl, lr50, hp.none⟩
/-! 7 postilion/postilionlaw04.FieldAll -/
theorem postilionlaw04_FieldAll.p1_ok {w0 : World} {Ws : List Wr} {Q : Exit → Env → World → Prop} (k : Nat) (g1 g2 g5 g8 : Nat) (x6 : Int) (x9 : Int) (a0 : List Int) (a1 : List Int) (r4 : List Int × Int) (r7 : List Int × Int) (l_a0 : a0.length = 32) (l_a1 : a1.length = 32) (l_r4_1 : r4.1.length = 32) (l_r7_1 : r7.1.length = 32) {r : Bool} (hQ0 : ∀ (e' : Env) (w' : World) (z0 : Bool), e' 4 = .bool z0 → Hp w0 Ws w' [⟨g1, 0, ints .u8 a0⟩, ⟨g2, 0, ints .u8 a1⟩, ⟨g5, 0, ints .u8 r4.1⟩, ⟨g8, 0, ints .u8 r7.1⟩] [] → r = (z0) → Q .normal e' w') (e : Env) (w : World) (s2_e : e 2 = .pointer (some ⟨g1, 0, none⟩)) (s3_e : e 3 = .pointer (some ⟨g2, 0, none⟩)) (s5_e : e 5 = .pointer (some ⟨g5, 0, none⟩)) (s6_e : e 6 = .int .i64 x6) (s7_e : e 7 = .pointer (some ⟨g8, 0, none⟩)) (s8_e : e 8 = .int .i64 x9) (hp : Hp w0 Ws w [⟨g1, 0, ints .u8 a0⟩, ⟨g2, 0, ints .u8 a1⟩, ⟨g5, 0, ints .u8 r4.1⟩, ⟨g8, 0, ints .u8 r7.1⟩] []) (h : postilionlaw04_FieldAll.p1 k x6 x9 a0 a1 r4 r7 = some r) : Wp Try.prog Try.f7.ntmps (at_ (fbody Try.f7) [1, 1, 1, 1, 0]) Q e w := by
  unfold postilionlaw04_FieldAll.p1 at h
  refine wregion_m (.tk 0 (.tk 2 (.ef 1 (.ef 3 (.tp 4 (.tp 5 (.tk 6 (.tk 7 (.tk 9 (.tk 10 (.ef 8 (.ef 11 (.tp 12 (.tp 13 (.tp 14 (.tk 15 (.tk 16 (.tk 18 (.tk 19 (.ef 17 (.ef 20 (.tp 21 (.tp 22 (.tp 23 (.tk 24 (.tk 25 (.tk 27 (.tk 28 (.ef 26 (.ef 29 (.tp 30 (.tp 31 (.tp 32 (.tk 33 (.tk 35 (.ef 34 (.ef 36 (.tp 37 (.tp 38 (.tp 39 (.tk 40 (.tk 41 (.tp 42 (.tp 43 (.tp 44 (.tp 45 (.tp 46 (.tp 47 (.tp 48 (.tp 49 (.done))))))))))))))))))))))))))))))))))))))))))))))))))) [] [(0, 0, 0), (1, 1125899906842623, 1125899906842623), (0, 0, 0), (6, 1125899906842623, 1125899906842623), (10, 10, 1125899906842623), (24, 16, 1125899906842623), (32, 32, 0), (32, 32, 0), (224, 1125899906842623, 1125899906842623), (32, 32, 0), (32, 32, 0), (1824, 1125899906842623, 1125899906842623), (2336, 2336, 1125899906842623), (4128, 4128, 1125899906842623), (10240, 8192, 1125899906842623), (16384, 16384, 0), (16384, 16384, 0), (114688, 1125899906842623, 1125899906842623), (16384, 16384, 0), (16384, 16384, 0), (933888, 1125899906842623, 1125899906842623), (1196032, 1196032, 1125899906842623), (2113536, 2113536, 1125899906842623), (5242880, 4194304, 1125899906842623), (8388608, 8388608, 0), (8388608, 8388608, 0), (58720256, 1125899906842623, 1125899906842623), (8388608, 8388608, 0), (8388608, 8388608, 0), (478150656, 1125899906842623, 1125899906842623), (612368384, 612368384, 1125899906842623), (1082130432, 1082130432, 1125899906842623), (2684354560, 2147483648, 1125899906842623), (4294967296, 4294967296, 0), (12884901888, 1125899906842623, 1125899906842623), (4294967296, 4294967296, 0), (55834574848, 1125899906842623, 1125899906842623), (90194313216, 90194313216, 1125899906842623), (141733920768, 141733920768, 1125899906842623), (343597383680, 274877906944, 1125899906842623), (549755813888, 549755813888, 0), (549755813888, 549755813888, 0), (3848290697216, 3848290697216, 1125899906842623), (4947802324992, 4947802324992, 1125899906842623), (9345848836096, 8796093022208, 1125899906842623), (17592186044416, 17592186044416, 1125899906842623), (17592186044416, 17592186044416, 1125899906842623), (123145302310912, 123145302310912, 1125899906842623), (158329674399744, 158329674399744, 1125899906842623), (562949953421311, 281474976710656, 1125899906842623)] rfl (by kernel_rfl) (by kernel_rfl) (Nat.le_of_ble_eq_true (by kernel_rfl)) (by kernel_rfl) (by kernel_rfl) ?_
  have hp := hp.drew
  refine k_loadA (n := 32) (xs := ints .u8 a0) 0 rfl (by kernel_rfl) (by kernel_rfl) s2_e (hp.get (j := 0) rfl) rfl rfl ((ints_length _ _).trans l_a0) (fun m v hm => by rw [Nat.zero_add]; exact hm) ?_
  refine k_loadA (n := 32) (xs := ints .u8 a0) 0 rfl (by kernel_rfl) (by kernel_rfl) s2_e (hp.get (j := 0) rfl) rfl rfl ((ints_length _ _).trans l_a0) (fun m v hm => by rw [Nat.zero_add]; exact hm) ?_
  obtain ⟨r10, qr10, h⟩ := bd_e h
  refine k_call [.agg (ints .u8 a0).toArray] rfl (by kernel_rfl) (args1 rfl) (field_Canonical_ok k a0 l_a0 _ (hp.toR (fun _ h => by cases h)) qr10) ?_
  rintro _ w' ⟨_, rfl, rfl, hpc⟩
  refine ⟨_, rfl, .inr (.of_below hpc.chg.to_below), ?_⟩; have hp := hp.below hpc.chg.to_below; clear hpc
  obtain ⟨r11, qr11, h⟩ := bd_e h
  refine k_call [.agg (ints .u8 a0).toArray] rfl (by kernel_rfl) (args1 rfl) (postilionref04_Canonical_ok k a0 l_a0 _ (hp.toR (fun _ h => by cases h)) qr11) ?_
  rintro _ w' ⟨_, rfl, rfl, hpc⟩
  refine ⟨_, rfl, .inr (.of_below hpc.chg.to_below), ?_⟩; have hp := hp.below hpc.chg.to_below; clear hpc
  refine k_eqB (a := r10) (b := r11) rfl Try.underlying4 rfl rfl ?_
  rcases Bool.eq_false_or_eq_true (r10 == r11) with hb | hb
  · replace h := br_t hb h
    refine k_move (v := .bool true) rfl (Eq.trans (b := .bool (r10 == r11)) rfl (congrArg Value.bool hb)) ?_
    refine k_loadA (n := 32) (xs := ints .u8 a0) 0 rfl (by kernel_rfl) (by kernel_rfl) s2_e (hp.get (j := 0) rfl) rfl rfl ((ints_length _ _).trans l_a0) (fun m v hm => by rw [Nat.zero_add]; exact hm) ?_
    refine k_loadA (n := 32) (xs := ints .u8 a1) 0 rfl (by kernel_rfl) (by kernel_rfl) s3_e (hp.get (j := 1) rfl) rfl rfl ((ints_length _ _).trans l_a1) (fun m v hm => by rw [Nat.zero_add]; exact hm) ?_
    refine k_loadA (n := 32) (xs := ints .u8 a0) 0 rfl (by kernel_rfl) (by kernel_rfl) s2_e (hp.get (j := 0) rfl) rfl rfl ((ints_length _ _).trans l_a0) (fun m v hm => by rw [Nat.zero_add]; exact hm) ?_
    refine k_loadA (n := 32) (xs := ints .u8 a1) 0 rfl (by kernel_rfl) (by kernel_rfl) s3_e (hp.get (j := 1) rfl) rfl rfl ((ints_length _ _).trans l_a1) (fun m v hm => by rw [Nat.zero_add]; exact hm) ?_
    obtain ⟨r12, qr12, h⟩ := bd_e h
    refine k_call [.agg (ints .u8 a0).toArray, .agg (ints .u8 a1).toArray] rfl (by kernel_rfl) (args2 rfl rfl) (field_Add_ok k a0 a1 l_a0 l_a1 _ (hp.toR (fun _ h => by cases h)) qr12) ?_
    rintro _ w' ⟨_, rfl, rfl, lr120, hpc⟩
    refine ⟨_, rfl, .inr (.of_below hpc.chg.to_below), ?_⟩; have hp := hp.below hpc.chg.to_below; clear hpc
    obtain ⟨r13, qr13, h⟩ := bd_e h
    refine k_call [.agg (ints .u8 a0).toArray, .agg (ints .u8 a1).toArray] rfl (by kernel_rfl) (args2 rfl rfl) (postilionref04_Add_ok k a0 a1 l_a0 l_a1 _ (hp.toR (fun _ h => by cases h)) qr13) ?_
    rintro _ w' ⟨_, rfl, rfl, lr130, hpc⟩
    refine ⟨_, rfl, .inr (.of_below hpc.chg.to_below), ?_⟩; have hp := hp.below hpc.chg.to_below; clear hpc
    refine k_eqI (k := .u8) (l := r12) (l' := r13) rfl Try.underlying22 Try.underlying5 (by kernel_rfl) (by kernel_rfl) rfl rfl lr120 lr130 ?_
    refine k_pick (b := true) (v := .bool (r12 == r13)) rfl rfl rfl rfl rfl ?_
    rcases Bool.eq_false_or_eq_true (r12 == r13) with hb | hb
    · replace h := br_t hb h
      refine k_move (v := .bool true) rfl (Eq.trans (b := .bool (r12 == r13)) rfl (congrArg Value.bool hb)) ?_
      refine k_loadA (n := 32) (xs := ints .u8 a0) 0 rfl (by kernel_rfl) (by kernel_rfl) s2_e (hp.get (j := 0) rfl) rfl rfl ((ints_length _ _).trans l_a0) (fun m v hm => by rw [Nat.zero_add]; exact hm) ?_
      refine k_loadA (n := 32) (xs := ints .u8 a1) 0 rfl (by kernel_rfl) (by kernel_rfl) s3_e (hp.get (j := 1) rfl) rfl rfl ((ints_length _ _).trans l_a1) (fun m v hm => by rw [Nat.zero_add]; exact hm) ?_
      refine k_loadA (n := 32) (xs := ints .u8 a0) 0 rfl (by kernel_rfl) (by kernel_rfl) s2_e (hp.get (j := 0) rfl) rfl rfl ((ints_length _ _).trans l_a0) (fun m v hm => by rw [Nat.zero_add]; exact hm) ?_
      refine k_loadA (n := 32) (xs := ints .u8 a1) 0 rfl (by kernel_rfl) (by kernel_rfl) s3_e (hp.get (j := 1) rfl) rfl rfl ((ints_length _ _).trans l_a1) (fun m v hm => by rw [Nat.zero_add]; exact hm) ?_
      obtain ⟨r14, qr14, h⟩ := bd_e h
      refine k_call [.agg (ints .u8 a0).toArray, .agg (ints .u8 a1).toArray] rfl (by kernel_rfl) (args2 rfl rfl) (field_Sub_ok k a0 a1 l_a0 l_a1 _ (hp.toR (fun _ h => by cases h)) qr14) ?_
      rintro _ w' ⟨_, rfl, rfl, lr140, hpc⟩
      refine ⟨_, rfl, .inr (.of_below hpc.chg.to_below), ?_⟩; have hp := hp.below hpc.chg.to_below; clear hpc
      obtain ⟨r15, qr15, h⟩ := bd_e h
      refine k_call [.agg (ints .u8 a0).toArray, .agg (ints .u8 a1).toArray] rfl (by kernel_rfl) (args2 rfl rfl) (postilionref04_Sub_ok k a0 a1 l_a0 l_a1 _ (hp.toR (fun _ h => by cases h)) qr15) ?_
      rintro _ w' ⟨_, rfl, rfl, lr150, hpc⟩
      refine ⟨_, rfl, .inr (.of_below hpc.chg.to_below), ?_⟩; have hp := hp.below hpc.chg.to_below; clear hpc
      refine k_eqI (k := .u8) (l := r14) (l' := r15) rfl Try.underlying22 Try.underlying5 (by kernel_rfl) (by kernel_rfl) rfl rfl lr140 lr150 ?_
      refine k_pick (b := true) (v := .bool (r14 == r15)) rfl rfl rfl rfl rfl ?_
      rcases Bool.eq_false_or_eq_true (r14 == r15) with hb | hb
      · replace h := br_t hb h
        refine k_move (v := .bool true) rfl (Eq.trans (b := .bool (r14 == r15)) rfl (congrArg Value.bool hb)) ?_
        refine k_loadA (n := 32) (xs := ints .u8 a0) 0 rfl (by kernel_rfl) (by kernel_rfl) s2_e (hp.get (j := 0) rfl) rfl rfl ((ints_length _ _).trans l_a0) (fun m v hm => by rw [Nat.zero_add]; exact hm) ?_
        refine k_loadA (n := 32) (xs := ints .u8 a1) 0 rfl (by kernel_rfl) (by kernel_rfl) s3_e (hp.get (j := 1) rfl) rfl rfl ((ints_length _ _).trans l_a1) (fun m v hm => by rw [Nat.zero_add]; exact hm) ?_
        refine k_loadA (n := 32) (xs := ints .u8 a0) 0 rfl (by kernel_rfl) (by kernel_rfl) s2_e (hp.get (j := 0) rfl) rfl rfl ((ints_length _ _).trans l_a0) (fun m v hm => by rw [Nat.zero_add]; exact hm) ?_
        refine k_loadA (n := 32) (xs := ints .u8 a1) 0 rfl (by kernel_rfl) (by kernel_rfl) s3_e (hp.get (j := 1) rfl) rfl rfl ((ints_length _ _).trans l_a1) (fun m v hm => by rw [Nat.zero_add]; exact hm) ?_
        obtain ⟨r16, qr16, h⟩ := bd_e h
        refine k_call [.agg (ints .u8 a0).toArray, .agg (ints .u8 a1).toArray] rfl (by kernel_rfl) (args2 rfl rfl) (field_Mul_ok k a0 a1 l_a0 l_a1 _ (hp.toR (fun _ h => by cases h)) qr16) ?_
        rintro _ w' ⟨_, rfl, rfl, lr160, hpc⟩
        refine ⟨_, rfl, .inr (.of_below hpc.chg.to_below), ?_⟩; have hp := hp.below hpc.chg.to_below; clear hpc
        obtain ⟨r17, qr17, h⟩ := bd_e h
        refine k_call [.agg (ints .u8 a0).toArray, .agg (ints .u8 a1).toArray] rfl (by kernel_rfl) (args2 rfl rfl) (postilionref04_Mul_ok k a0 a1 l_a0 l_a1 _ (hp.toR (fun _ h => by cases h)) qr17) ?_
        rintro _ w' ⟨_, rfl, rfl, lr170, hpc⟩
        refine ⟨_, rfl, .inr (.of_below hpc.chg.to_below), ?_⟩; have hp := hp.below hpc.chg.to_below; clear hpc
        refine k_eqI (k := .u8) (l := r16) (l' := r17) rfl Try.underlying22 Try.underlying5 (by kernel_rfl) (by kernel_rfl) rfl rfl lr160 lr170 ?_
        refine k_pick (b := true) (v := .bool (r16 == r17)) rfl rfl rfl rfl rfl ?_
        rcases Bool.eq_false_or_eq_true (r16 == r17) with hb | hb
        · replace h := br_t hb h
          refine k_move (v := .bool true) rfl (Eq.trans (b := .bool (r16 == r17)) rfl (congrArg Value.bool hb)) ?_
          refine k_loadA (n := 32) (xs := ints .u8 a0) 0 rfl (by kernel_rfl) (by kernel_rfl) s2_e (hp.get (j := 0) rfl) rfl rfl ((ints_length _ _).trans l_a0) (fun m v hm => by rw [Nat.zero_add]; exact hm) ?_
          refine k_loadA (n := 32) (xs := ints .u8 a0) 0 rfl (by kernel_rfl) (by kernel_rfl) s2_e (hp.get (j := 0) rfl) rfl rfl ((ints_length _ _).trans l_a0) (fun m v hm => by rw [Nat.zero_add]; exact hm) ?_
          obtain ⟨r18, qr18, h⟩ := bd_e h
          refine k_call [.agg (ints .u8 a0).toArray] rfl (by kernel_rfl) (args1 rfl) (field_Inv_ok k a0 l_a0 _ (hp.toR (fun _ h => by cases h)) qr18) ?_
          rintro _ w' ⟨_, rfl, rfl, lr180, hpc⟩
          refine ⟨_, rfl, .inr (.of_below hpc.chg.to_below), ?_⟩; have hp := hp.below hpc.chg.to_below; clear hpc
          obtain ⟨r19, qr19, h⟩ := bd_e h
          refine k_call [.agg (ints .u8 a0).toArray] rfl (by kernel_rfl) (args1 rfl) (postilionref04_Inv_ok k a0 l_a0 _ (hp.toR (fun _ h => by cases h)) qr19) ?_
          rintro _ w' ⟨_, rfl, rfl, lr190, hpc⟩
          refine ⟨_, rfl, .inr (.of_below hpc.chg.to_below), ?_⟩; have hp := hp.below hpc.chg.to_below; clear hpc
          refine k_eqI (k := .u8) (l := r18) (l' := r19) rfl Try.underlying22 Try.underlying5 (by kernel_rfl) (by kernel_rfl) rfl rfl lr180 lr190 ?_
          refine k_pick (b := true) (v := .bool (r18 == r19)) rfl rfl rfl rfl rfl ?_
          rcases Bool.eq_false_or_eq_true (r18 == r19) with hb | hb
          · replace h := br_t hb h
            refine k_move (v := .bool true) rfl (Eq.trans (b := .bool (r18 == r19)) rfl (congrArg Value.bool hb)) ?_
            refine k_loadA (n := 32) (xs := ints .u8 r4.1) 0 rfl (by kernel_rfl) (by kernel_rfl) s5_e (hp.get (j := 2) rfl) rfl rfl ((ints_length _ _).trans l_r4_1) (fun m v hm => by rw [Nat.zero_add]; exact hm) ?_
            refine k_loadA (n := 32) (xs := ints .u8 r7.1) 0 rfl (by kernel_rfl) (by kernel_rfl) s7_e (hp.get (j := 3) rfl) rfl rfl ((ints_length _ _).trans l_r7_1) (fun m v hm => by rw [Nat.zero_add]; exact hm) ?_
            refine k_eqI (k := .u8) (l := r4.1) (l' := r7.1) rfl Try.underlying22 Try.underlying5 (by kernel_rfl) (by kernel_rfl) rfl rfl l_r4_1 l_r7_1 ?_
            refine k_pick (b := true) (v := .bool (r4.1 == r7.1)) rfl rfl rfl rfl rfl ?_
            rcases Bool.eq_false_or_eq_true (r4.1 == r7.1) with hb | hb
            · replace h := br_t hb h
              refine k_move (v := .bool true) rfl (Eq.trans (b := .bool (r4.1 == r7.1)) rfl (congrArg Value.bool hb)) ?_
              refine k_move (v := .int .i64 x6) rfl s6_e ?_
              refine k_move (v := .int .i64 x9) rfl s8_e ?_
              refine k_bin (X := .int .i64 x6) (Y := .int .i64 x9) rfl rfl rfl rfl ?_
              refine k_pick (b := true) (v := .bool (x6 == x9)) rfl rfl rfl rfl rfl ?_
              refine k_assign (v := .bool (x6 == x9)) rfl rfl ?_
              refine k_end ?_; intro e391 qe391
              have s4_e391 : e391 4 = .bool (x6 == x9) := congrFun qe391 4
              clear qe391
              exact hQ0 _ _ (x6 == x9)  s4_e391 (hp.drop (L' := [⟨g1, 0, ints .u8 a0⟩, ⟨g2, 0, ints .u8 a1⟩, ⟨g5, 0, ints .u8 r4.1⟩, ⟨g8, 0, ints .u8 r7.1⟩]) (List.Sublist.refl _)) (Option.some.inj h).symm
            · replace h := br_f hb h
              refine k_move (v := .bool false) rfl (Eq.trans (b := .bool (r4.1 == r7.1)) rfl (congrArg Value.bool hb)) ?_
              refine k_skip rfl ?_
              refine k_skip rfl ?_
              refine k_skip rfl ?_
              refine k_pick (b := false) (v := .bool false) rfl rfl rfl rfl rfl ?_
              refine k_assign (v := .bool false) rfl rfl ?_
              refine k_end ?_; intro e392 qe392
              have s4_e392 : e392 4 = .bool false := congrFun qe392 4
              clear qe392
              exact hQ0 _ _ false  s4_e392 (hp.drop (L' := [⟨g1, 0, ints .u8 a0⟩, ⟨g2, 0, ints .u8 a1⟩, ⟨g5, 0, ints .u8 r4.1⟩, ⟨g8, 0, ints .u8 r7.1⟩]) (List.Sublist.refl _)) (Option.some.inj h).symm
          · replace h := br_f hb h
            refine k_move (v := .bool false) rfl (Eq.trans (b := .bool (r18 == r19)) rfl (congrArg Value.bool hb)) ?_
            refine k_skip_tk rfl ?_
            refine k_skip_tk rfl ?_
            refine k_skip rfl ?_
            refine k_pick (b := false) (v := .bool false) rfl rfl rfl rfl rfl ?_
            refine k_move (v := .bool false) rfl rfl ?_
            refine k_skip rfl ?_
            refine k_skip rfl ?_
            refine k_skip rfl ?_
            refine k_pick (b := false) (v := .bool false) rfl rfl rfl rfl rfl ?_
            refine k_assign (v := .bool false) rfl rfl ?_
            refine k_end ?_; intro e393 qe393
            have s4_e393 : e393 4 = .bool false := congrFun qe393 4
            clear qe393
            exact hQ0 _ _ false  s4_e393 (hp.drop (L' := [⟨g1, 0, ints .u8 a0⟩, ⟨g2, 0, ints .u8 a1⟩, ⟨g5, 0, ints .u8 r4.1⟩, ⟨g8, 0, ints .u8 r7.1⟩]) (List.Sublist.refl _)) (Option.some.inj h).symm
        · replace h := br_f hb h
          refine k_move (v := .bool false) rfl (Eq.trans (b := .bool (r16 == r17)) rfl (congrArg Value.bool hb)) ?_
          refine k_skip_tk rfl ?_
          refine k_skip_tk rfl ?_
          refine k_skip_ef rfl ?_
          refine k_skip_ef rfl ?_
          refine k_skip rfl ?_
          refine k_pick (b := false) (v := .bool false) rfl rfl rfl rfl rfl ?_
          refine k_move (v := .bool false) rfl rfl ?_
          refine k_skip_tk rfl ?_
          refine k_skip_tk rfl ?_
          refine k_skip rfl ?_
          refine k_pick (b := false) (v := .bool false) rfl rfl rfl rfl rfl ?_
          refine k_move (v := .bool false) rfl rfl ?_
          refine k_skip rfl ?_
          refine k_skip rfl ?_
          refine k_skip rfl ?_
          refine k_pick (b := false) (v := .bool false) rfl rfl rfl rfl rfl ?_
          refine k_assign (v := .bool false) rfl rfl ?_
          refine k_end ?_; intro e394 qe394
          have s4_e394 : e394 4 = .bool false := congrFun qe394 4
          clear qe394
          exact hQ0 _ _ false  s4_e394 (hp.drop (L' := [⟨g1, 0, ints .u8 a0⟩, ⟨g2, 0, ints .u8 a1⟩, ⟨g5, 0, ints .u8 r4.1⟩, ⟨g8, 0, ints .u8 r7.1⟩]) (List.Sublist.refl _)) (Option.some.inj h).symm
      · replace h := br_f hb h
        refine k_move (v := .bool false) rfl (Eq.trans (b := .bool (r14 == r15)) rfl (congrArg Value.bool hb)) ?_
        refine k_skip_tk rfl ?_
        refine k_skip_tk rfl ?_
        refine k_skip_tk rfl ?_
        refine k_skip_tk rfl ?_
        refine k_skip_ef rfl ?_
        refine k_skip_ef rfl ?_
        refine k_skip rfl ?_
        refine k_pick (b := false) (v := .bool false) rfl rfl rfl rfl rfl ?_
        refine k_move (v := .bool false) rfl rfl ?_
        refine k_skip_tk rfl ?_
        refine k_skip_tk rfl ?_
        refine k_skip_ef rfl ?_
        refine k_skip_ef rfl ?_
        refine k_skip rfl ?_
        refine k_pick (b := false) (v := .bool false) rfl rfl rfl rfl rfl ?_
        refine k_move (v := .bool false) rfl rfl ?_
        refine k_skip_tk rfl ?_
        refine k_skip_tk rfl ?_
        refine k_skip rfl ?_
        refine k_pick (b := false) (v := .bool false) rfl rfl rfl rfl rfl ?_
        refine k_move (v := .bool false) rfl rfl ?_
        refine k_skip rfl ?_
        refine k_skip rfl ?_
        refine k_skip rfl ?_
        refine k_pick (b := false) (v := .bool false) rfl rfl rfl rfl rfl ?_
        refine k_assign (v := .bool false) rfl rfl ?_
        refine k_end ?_; intro e395 qe395
        have s4_e395 : e395 4 = .bool false := congrFun qe395 4
        clear qe395
        exact hQ0 _ _ false  s4_e395 (hp.drop (L' := [⟨g1, 0, ints .u8 a0⟩, ⟨g2, 0, ints .u8 a1⟩, ⟨g5, 0, ints .u8 r4.1⟩, ⟨g8, 0, ints .u8 r7.1⟩]) (List.Sublist.refl _)) (Option.some.inj h).symm
    · replace h := br_f hb h
      refine k_move (v := .bool false) rfl (Eq.trans (b := .bool (r12 == r13)) rfl (congrArg Value.bool hb)) ?_
      refine k_skip_tk rfl ?_
      refine k_skip_tk rfl ?_
      refine k_skip_tk rfl ?_
      refine k_skip_tk rfl ?_
      refine k_skip_ef rfl ?_
      refine k_skip_ef rfl ?_
      refine k_skip rfl ?_
      refine k_pick (b := false) (v := .bool false) rfl rfl rfl rfl rfl ?_
      refine k_move (v := .bool false) rfl rfl ?_
      refine k_skip_tk rfl ?_
      refine k_skip_tk rfl ?_
      refine k_skip_tk rfl ?_
      refine k_skip_tk rfl ?_
      refine k_skip_ef rfl ?_
      refine k_skip_ef rfl ?_
      refine k_skip rfl ?_
      refine k_pick (b := false) (v := .bool false) rfl rfl rfl rfl rfl ?_
      refine k_move (v := .bool false) rfl rfl ?_
      refine k_skip_tk rfl ?_
      refine k_skip_tk rfl ?_
      refine k_skip_ef rfl ?_
      refine k_skip_ef rfl ?_
      refine k_skip rfl ?_
      refine k_pick (b := false) (v := .bool false) rfl rfl rfl rfl rfl ?_
      refine k_move (v := .bool false) rfl rfl ?_
      refine k_skip_tk rfl ?_
      refine k_skip_tk rfl ?_
      refine k_skip rfl ?_
      refine k_pick (b := false) (v := .bool false) rfl rfl rfl rfl rfl ?_
      refine k_move (v := .bool false) rfl rfl ?_
      refine k_skip rfl ?_
      refine k_skip rfl ?_
      refine k_skip rfl ?_
      refine k_pick (b := false) (v := .bool false) rfl rfl rfl rfl rfl ?_
      refine k_assign (v := .bool false) rfl rfl ?_
      refine k_end ?_; intro e396 qe396
      have s4_e396 : e396 4 = .bool false := congrFun qe396 4
      clear qe396
      exact hQ0 _ _ false  s4_e396 (hp.drop (L' := [⟨g1, 0, ints .u8 a0⟩, ⟨g2, 0, ints .u8 a1⟩, ⟨g5, 0, ints .u8 r4.1⟩, ⟨g8, 0, ints .u8 r7.1⟩]) (List.Sublist.refl _)) (Option.some.inj h).symm
  · replace h := br_f hb h
    refine k_move (v := .bool false) rfl (Eq.trans (b := .bool (r10 == r11)) rfl (congrArg Value.bool hb)) ?_
    refine k_skip_tk rfl ?_
    refine k_skip_tk rfl ?_
    refine k_skip_tk rfl ?_
    refine k_skip_tk rfl ?_
    refine k_skip_ef rfl ?_
    refine k_skip_ef rfl ?_
    refine k_skip rfl ?_
    refine k_pick (b := false) (v := .bool false) rfl rfl rfl rfl rfl ?_
    refine k_move (v := .bool false) rfl rfl ?_
    refine k_skip_tk rfl ?_
    refine k_skip_tk rfl ?_
    refine k_skip_tk rfl ?_
    refine k_skip_tk rfl ?_
    refine k_skip_ef rfl ?_
    refine k_skip_ef rfl ?_
    refine k_skip rfl ?_
    refine k_pick (b := false) (v := .bool false) rfl rfl rfl rfl rfl ?_
    refine k_move (v := .bool false) rfl rfl ?_
    refine k_skip_tk rfl ?_
    refine k_skip_tk rfl ?_
    refine k_skip_tk rfl ?_
    refine k_skip_tk rfl ?_
    refine k_skip_ef rfl ?_
    refine k_skip_ef rfl ?_
    refine k_skip rfl ?_
    refine k_pick (b := false) (v := .bool false) rfl rfl rfl rfl rfl ?_
    refine k_move (v := .bool false) rfl rfl ?_
    refine k_skip_tk rfl ?_
    refine k_skip_tk rfl ?_
    refine k_skip_ef rfl ?_
    refine k_skip_ef rfl ?_
    refine k_skip rfl ?_
    refine k_pick (b := false) (v := .bool false) rfl rfl rfl rfl rfl ?_
    refine k_move (v := .bool false) rfl rfl ?_
    refine k_skip_tk rfl ?_
    refine k_skip_tk rfl ?_
    refine k_skip rfl ?_
    refine k_pick (b := false) (v := .bool false) rfl rfl rfl rfl rfl ?_
    refine k_move (v := .bool false) rfl rfl ?_
    refine k_skip rfl ?_
    refine k_skip rfl ?_
    refine k_skip rfl ?_
    refine k_pick (b := false) (v := .bool false) rfl rfl rfl rfl rfl ?_
    refine k_assign (v := .bool false) rfl rfl ?_
    refine k_end ?_; intro e397 qe397
    have s4_e397 : e397 4 = .bool false := congrFun qe397 4
    clear qe397
    exact hQ0 _ _ false  s4_e397 (hp.drop (L' := [⟨g1, 0, ints .u8 a0⟩, ⟨g2, 0, ints .u8 a1⟩, ⟨g5, 0, ints .u8 r4.1⟩, ⟨g8, 0, ints .u8 r7.1⟩]) (List.Sublist.refl _)) (Option.some.inj h).symm
theorem postilionlaw04_FieldAll_ok (k : Nat) (a0 : List Int) (a1 : List Int) (la0 : a0.length = 32) (la1 : a1.length = 32) (w0 : World) (hp : Hp w0 [] w0 [] []) {r : Bool} (h : postilionlaw04_FieldAll.f k a0 a1 = some r) :
    Calls Try.prog 7 [.agg (ints .u8 a0).toArray, .agg (ints .u8 a1).toArray].toArray w0 fun x w' => ∃ v, x = .returned v ∧ v = .bool r ∧ Hp w0 [] w' [] [] := by
  refine calls_in Try.func7 rfl (Nat.le_of_ble_eq_true (by kernel_rfl)) (by kernel_rfl) ?_
  intro e0 qe0
  have s0_e0 : e0 0 = .agg (ints .u8 a0).toArray := congrFun qe0 0
  have s1_e0 : e0 1 = .agg (ints .u8 a1).toArray := congrFun qe0 1
  clear qe0
  unfold postilionlaw04_FieldAll.f at h
  refine wseq rfl ?_
  refine wregion (.ef 0 (.ef 1 (.tp 2 (.done)))) [] rfl (by kernel_rfl) (by kernel_rfl) ?_
  refine k_box (v := .agg (ints .u8 a0).toArray) (ints .u8 a0) rfl s0_e0 rfl hp ?_
  intro g1 w hbg1 hp
  refine k_box (v := .agg (ints .u8 a1).toArray) (ints .u8 a1) rfl s1_e0 rfl hp ?_
  intro g2 w hbg2 hp
  refine k_assign (v := .bool false) rfl rfl ?_
  refine k_end ?_; intro e386 qe386
  have s2_e386 : e386 2 = .pointer (some ⟨g1, 0, none⟩) := congrFun qe386 2
  have s3_e386 : e386 3 = .pointer (some ⟨g2, 0, none⟩) := congrFun qe386 3
  clear qe386
  refine wseq rfl ?_
  refine wseq rfl ?_
  refine wregion (.ef 0 (.tp 1 (.done))) [] rfl (by kernel_rfl) (by kernel_rfl) ?_
  obtain ⟨r3, qr3, h⟩ := bd_e h
  refine k_call [] rfl (by kernel_rfl) (args0 ) (postilionlaw04_awake_ok k   _ (hp.toR (fun _ h => by cases h)) qr3) ?_
  rintro _ w' ⟨_, rfl, rfl, hpc⟩
  refine ⟨_, rfl, .inr (.of_below hpc.chg.to_below), ?_⟩; have hp := hp.below hpc.chg.to_below; clear hpc
  refine k_not (b := r3) rfl rfl ?_
  refine k_end ?_; intro e387 qe387
  have s2_e387 : e387 2 = .pointer (some ⟨g1, 0, none⟩) := (congrFun qe387 2).trans s2_e386
  have s3_e387 : e387 3 = .pointer (some ⟨g2, 0, none⟩) := (congrFun qe387 3).trans s3_e386
  have s10_e387 : e387 10 = .bool (!r3) := congrFun qe387 10
  clear qe387
  refine wcond (t := (!r3)) rfl (by decide) s10_e387 (fun hb => ?_) (fun hb => ?_)
  · replace h := br_t hb h
    refine wseq rfl ?_
    refine wregion (.tp 0 (.done)) [] rfl (by kernel_rfl) (by kernel_rfl) ?_
    refine k_assign (v := .bool false) rfl rfl ?_
    refine k_end ?_; intro e388 qe388
    have s4_e388 : e388 4 = .bool false := congrFun qe388 4
    clear qe388
    refine wret rfl ?_
    have hr : r = false := (Option.some.inj h).symm
    show RetP _ _ _ _ _
    rw [hr]
    exact ret_i [.bool false] (res_tmp s4_e388 res_nil) ⟨rfl, hp.none⟩
  · replace h := br_f hb h
    refine wskip rfl ?_
    refine wseq rfl ?_
    refine wregion (.tk 0 (.ef 1 (.tp 2 (.tp 3 (.tp 4 (.ef 5 (.ef 6 (.tp 7 (.done))))))))) [6] rfl (by kernel_rfl) (by kernel_rfl) ?_
    refine k_loadA (n := 32) (xs := ints .u8 a0) 0 rfl (by kernel_rfl) (by kernel_rfl) s2_e387 (hp.get (j := 0) rfl) rfl rfl ((ints_length _ _).trans la0) (fun m v hm => by rw [Nat.zero_add]; exact hm) ?_
    obtain ⟨r4, qr4, h⟩ := bd_e h
    refine k_call [.agg (ints .u8 a0).toArray] rfl (by kernel_rfl) (args1 rfl) (field_Sqrt_ok k a0 la0 _ (hp.toR (fun _ h => by cases h)) qr4) ?_
    rintro _ w' ⟨_, rfl, rfl, lr40, hpc⟩
    refine ⟨_, rfl, .inr (.of_below hpc.chg.to_below), ?_⟩; have hp := hp.below hpc.chg.to_below; clear hpc
    refine k_move (v := .tuple #[.agg (ints .u8 r4.1).toArray, .int .i64 r4.2]) rfl rfl ?_
    refine k_extract (v := .agg (ints .u8 r4.1).toArray) rfl rfl rfl ?_
    refine k_extract (v := .int .i64 r4.2) rfl rfl rfl ?_
    refine k_alloc (ints .u8 (List.replicate 32 (0 : Int))) rfl (by kernel_rfl) hp ?_
    intro g5 w hbg5 hp
    refine k_storeA (v := .agg (ints .u8 r4.1).toArray) 2 0 (r := ⟨g5, 0, ints .u8 (List.replicate 32 (0 : Int))⟩) (ints .u8 r4.1) (ints .u8 r4.1) rfl (n := 32) (by kernel_rfl) rfl rfl rfl ((ints_length _ _).trans lr40) (ints_one _ _) hp rfl rfl rfl (Nat.le_of_eq ((Nat.zero_add _).trans ((ints_length _ _).trans List.length_replicate).symm)) (setMany_all _ _ (((ints_length _ _).trans lr40).trans ((ints_length _ _).trans List.length_replicate).symm)) (by decide) ?_; intro w hp
    refine k_assign (v := .int .i64 r4.2) rfl rfl ?_
    refine k_end ?_; intro e389 qe389
    have s2_e389 : e389 2 = .pointer (some ⟨g1, 0, none⟩) := (congrFun qe389 2).trans s2_e387
    have s3_e389 : e389 3 = .pointer (some ⟨g2, 0, none⟩) := (congrFun qe389 3).trans s3_e387
    have s5_e389 : e389 5 = .pointer (some ⟨g5, 0, none⟩) := congrFun qe389 5
    obtain ⟨x6, qx6, h⟩ := lt_e h
    have s6_e389 : e389 6 = .int .i64 x6 := (congrFun qe389 6).trans (congrArg (Value.int .i64) qx6.symm)
    clear qe389
    refine wseq rfl ?_
    refine wregion (.tk 0 (.ef 1 (.tp 2 (.tp 3 (.tp 4 (.ef 5 (.ef 6 (.tp 7 (.done))))))))) [6] rfl (by kernel_rfl) (by kernel_rfl) ?_
    refine k_loadA (n := 32) (xs := ints .u8 a0) 0 rfl (by kernel_rfl) (by kernel_rfl) s2_e389 (hp.get (j := 0) rfl) rfl rfl ((ints_length _ _).trans la0) (fun m v hm => by rw [Nat.zero_add]; exact hm) ?_
    obtain ⟨r7, qr7, h⟩ := bd_e h
    refine k_call [.agg (ints .u8 a0).toArray] rfl (by kernel_rfl) (args1 rfl) (postilionref04_Sqrt_ok k a0 la0 _ (hp.toR (fun _ h => by cases h)) qr7) ?_
    rintro _ w' ⟨_, rfl, rfl, lr70, hpc⟩
    refine ⟨_, rfl, .inr (.of_below hpc.chg.to_below), ?_⟩; have hp := hp.below hpc.chg.to_below; clear hpc
    refine k_move (v := .tuple #[.agg (ints .u8 r7.1).toArray, .int .i64 r7.2]) rfl rfl ?_
    refine k_extract (v := .agg (ints .u8 r7.1).toArray) rfl rfl rfl ?_
    refine k_extract (v := .int .i64 r7.2) rfl rfl rfl ?_
    refine k_alloc (ints .u8 (List.replicate 32 (0 : Int))) rfl (by kernel_rfl) hp ?_
    intro g8 w hbg8 hp
    refine k_storeA (v := .agg (ints .u8 r7.1).toArray) 3 0 (r := ⟨g8, 0, ints .u8 (List.replicate 32 (0 : Int))⟩) (ints .u8 r7.1) (ints .u8 r7.1) rfl (n := 32) (by kernel_rfl) rfl rfl rfl ((ints_length _ _).trans lr70) (ints_one _ _) hp rfl rfl rfl (Nat.le_of_eq ((Nat.zero_add _).trans ((ints_length _ _).trans List.length_replicate).symm)) (setMany_all _ _ (((ints_length _ _).trans lr70).trans ((ints_length _ _).trans List.length_replicate).symm)) (by decide) ?_; intro w hp
    refine k_assign (v := .int .i64 r7.2) rfl rfl ?_
    refine k_end ?_; intro e390 qe390
    have s2_e390 : e390 2 = .pointer (some ⟨g1, 0, none⟩) := (congrFun qe390 2).trans s2_e389
    have s3_e390 : e390 3 = .pointer (some ⟨g2, 0, none⟩) := (congrFun qe390 3).trans s3_e389
    have s5_e390 : e390 5 = .pointer (some ⟨g5, 0, none⟩) := (congrFun qe390 5).trans s5_e389
    have s6_e390 : e390 6 = .int .i64 x6 := (congrFun qe390 6).trans s6_e389
    have s7_e390 : e390 7 = .pointer (some ⟨g8, 0, none⟩) := congrFun qe390 7
    obtain ⟨x9, qx9, h⟩ := lt_e h
    have s8_e390 : e390 8 = .int .i64 x9 := (congrFun qe390 8).trans (congrArg (Value.int .i64) qx9.symm)
    clear qe390
    refine wseq rfl ?_
    obtain ⟨r20, qr20, h⟩ := bd_e h
    refine postilionlaw04_FieldAll.p1_ok k g1 g2 g5 g8 x6 x9 a0 a1 r4 r7 la0 la1 lr40 lr70 ?hq0 e390 _ s2_e390 s3_e390 s5_e390 s6_e390 s7_e390 s8_e390 hp qr20
    case hq0 =>
      intro e398 w m21  s4_e398 hp qq
      rw [qq] at h; clear qq
      refine wret rfl ?_
      have hr : r = m21 := (Option.some.inj h).symm
      show RetP _ _ _ _ _
      rw [hr]
      exact ret_i [.bool m21] (res_tmp s4_e398 res_nil) ⟨rfl, hp.none⟩
end Go.Proofs.Ytmjjkhnofolacaa
