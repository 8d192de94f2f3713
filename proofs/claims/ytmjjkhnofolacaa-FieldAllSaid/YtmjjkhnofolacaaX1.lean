/-
  The walks: each function of the program form returns what its plain definition computes. Printed by my own program.
  Conditions: none; every function is taken as the given program's form has it.
-/
import Derived.Test.YtmjjkhnofolacaaProg
import Derived.Test.YtmjjkhnofolacaaGp
namespace Go.Proofs.Ytmjjkhnofolacaa
open Go Go.Gx Go.RowKit
set_option linter.unusedVariables false
set_option maxRecDepth 100000
theorem ext54 : Try.prog.funcs[54]? = some Try.f54 ∧ (Try.f54.name == "runtime.NumGoroutine") = false ∧ Try.f54.body.isNone = true ∧ Extern.findNext Try.f54 = none ∧ Extern.find Try.f54 = some add64Entry :=
  ⟨Try.func54, by kernel_rfl, by kernel_rfl, by kernel_rfl, by kernel_rfl⟩
theorem ext57 : Try.prog.funcs[57]? = some Try.f57 ∧ (Try.f57.name == "runtime.NumGoroutine") = false ∧ Try.f57.body.isNone = true ∧ Extern.findNext Try.f57 = none ∧ Extern.find Try.f57 = some sub64Entry :=
  ⟨Try.func57, by kernel_rfl, by kernel_rfl, by kernel_rfl, by kernel_rfl⟩
/-! 39 postilion/field.Of$1 -/
theorem field_Of_1.p1_ok {w0 : World} {Ws : List Wr} {Q : Exit → Env → World → Prop} (b1 o1 : Nat) (a0 : Int) (a1 : List Int) (l_a1 : a1.length = 32) {r : Int} (hQ0 : ∀ (e' : Env) (w' : World) (z0 : Int), e' 4 = .int .u64 z0 → Hp w0 Ws w' [] [⟨b1, o1, ints .u8 a1⟩] → r = (z0) → Q (.exit 0) e' w') : ∀ (k : Nat), ∀ (y1 : Int) (y2 : Int) (e : Env) (w : World)  (s0_e : e 0 = .int .i64 a0) (s1_e : e 1 = .pointer (some ⟨b1, o1, none⟩)) (s4_e : e 4 = .int .u64 y1) (s5_e : e 5 = .int .i64 y2) (hp : Hp w0 Ws w [] [⟨b1, o1, ints .u8 a1⟩]) (h : field_Of_1.p1 k a0 a1 y1 y2 = some r), Lp Try.prog Try.f39.ntmps (at_ (fbody Try.f39) [1, 1, 0, 1, 0, 0]) Q k e w := by
  intro k
  induction k with
  | zero => intro y1 y2 e w  s0_e s1_e s4_e s5_e hp h; cases h
  | succ k ih =>
    intro y1 y2 e w  s0_e s1_e s4_e s5_e hp h
    unfold field_Of_1.p1 at h
    show Wp _ _ _ _ _ _
    refine wseq rfl ?_
    refine wseq rfl ?_
    refine wregion (.tp 0 (.tp 1 (.done))) [] rfl (by kernel_rfl) (by kernel_rfl) ?_
    refine k_move (v := .int .i64 y2) rfl s5_e ?_
    refine k_bin (X := .int .i64 y2) (Y := .int .i64 0) rfl rfl rfl rfl ?_
    refine k_end ?_; intro e4 qe4
    have s0_e4 : e4 0 = .int .i64 a0 := (congrFun qe4 0).trans s0_e
    have s1_e4 : e4 1 = .pointer (some ⟨b1, o1, none⟩) := (congrFun qe4 1).trans s1_e
    have s4_e4 : e4 4 = .int .u64 y1 := (congrFun qe4 4).trans s4_e
    have s5_e4 : e4 5 = .int .i64 y2 := (congrFun qe4 5).trans s5_e
    have s7_e4 : e4 7 = .bool (decide (y2 ≥ 0)) := congrFun qe4 7
    clear qe4
    refine wcond (t := (decide (y2 ≥ 0))) rfl (by decide) s7_e4 (fun hb => ?_) (fun hb => ?_)
    · replace h := br_t hb h
      refine wskip rfl ?_
      refine wseq rfl ?_
      refine wblock rfl ?_
      refine wregion (.tp 0 (.tp 1 (.tp 2 (.tp 3 (.tp 4 (.tp 5 (.tk 6 (.tp 7 (.tp 8 (.tp 9 (.done))))))))))) [] rfl (by kernel_rfl) (by kernel_rfl) ?_
      refine k_move (v := .int .u64 y1) rfl s4_e4 ?_
      refine k_shl (a := y1) (b := 8) rfl rfl rfl (by decide) ?_
      refine k_move (v := .int .i64 a0) rfl s0_e4 ?_
      refine k_move (v := .int .i64 y2) rfl s5_e4 ?_
      refine k_bin (X := .int .i64 a0) (Y := .int .i64 y2) rfl rfl rfl rfl ?_
      obtain ⟨c3, h⟩ := chk_e h
      refine k_indexA (n := 32) (s := 1) (j := (IntKind.i64.wrap (a0 + y2))) rfl Try.underlying22 (by kernel_rfl) s1_e4 rfl c3 ?_
      refine k_load (j := ((IntKind.i64.wrap (a0 + y2)) : Int).toNat) (v := .int .u8 (a1.getD ((IntKind.i64.wrap (a0 + y2)) : Int).toNat 0)) rfl (by kernel_rfl) rfl (hp.getR (j := 0) rfl) rfl (show o1 + ((IntKind.i64.wrap (a0 + y2)) : Int).toNat * 1 = o1 + ((IntKind.i64.wrap (a0 + y2)) : Int).toNat by omega) (ints_get (idx_lt c3 l_a1)) ?_
      refine k_conv (k := .u64) (k' := .u8) (n := (a1.getD ((IntKind.i64.wrap (a0 + y2)) : Int).toNat 0)) rfl Try.underlying5 Try.underlying32 rfl ?_
      refine k_bin (X := .int .u64 (IntKind.u64.wrap (y1 * 2 ^ 8))) (Y := .int .u64 (IntKind.u64.wrap (a1.getD ((IntKind.i64.wrap (a0 + y2)) : Int).toNat 0))) rfl rfl rfl rfl ?_
      refine k_assign (v := .int .u64 (bits .or .u64 (IntKind.u64.wrap (y1 * 2 ^ 8)) (IntKind.u64.wrap (a1.getD ((IntKind.i64.wrap (a0 + y2)) : Int).toNat 0)))) rfl rfl ?_
      refine k_end ?_; intro e5 qe5
      have s0_e5 : e5 0 = .int .i64 a0 := (congrFun qe5 0).trans s0_e4
      have s1_e5 : e5 1 = .pointer (some ⟨b1, o1, none⟩) := (congrFun qe5 1).trans s1_e4
      obtain ⟨x4, qx4, h⟩ := lt_e h
      have s4_e5 : e5 4 = .int .u64 x4 := (congrFun qe5 4).trans (congrArg (Value.int .u64) qx4.symm)
      have s5_e5 : e5 5 = .int .i64 y2 := (congrFun qe5 5).trans s5_e4
      clear qe5
      refine wregion (.tp 0 (.tp 1 (.tp 2 (.done)))) [] rfl (by kernel_rfl) (by kernel_rfl) ?_
      refine k_move (v := .int .i64 y2) rfl s5_e5 ?_
      refine k_bin (X := .int .i64 y2) (Y := .int .i64 1) rfl rfl rfl rfl ?_
      refine k_assign (v := .int .i64 (IntKind.i64.wrap (y2 - 1))) rfl rfl ?_
      refine k_end ?_; intro e6 qe6
      have s0_e6 : e6 0 = .int .i64 a0 := (congrFun qe6 0).trans s0_e5
      have s1_e6 : e6 1 = .pointer (some ⟨b1, o1, none⟩) := (congrFun qe6 1).trans s1_e5
      have s4_e6 : e6 4 = .int .u64 x4 := (congrFun qe6 4).trans s4_e5
      obtain ⟨x5, qx5, h⟩ := lt_e h
      have s5_e6 : e6 5 = .int .i64 x5 := (congrFun qe6 5).trans (congrArg (Value.int .i64) qx5.symm)
      clear qe6
      exact ih x4 x5 _ _  s0_e6 s1_e6 s4_e6 s5_e6 (hp.drop (L' := []) (List.Sublist.refl _)) h
    · replace h := br_f hb h
      refine wexit rfl ?_
      exact hQ0 _ _ y1  s4_e4 (hp.drop (L' := []) (List.Sublist.refl _)) (Option.some.inj h).symm
theorem field_Of_1_ok (k : Nat) (a0 : Int) (a1 : List Int) (b1 o1 : Nat) (la1 : a1.length = 32) (w0 : World) (hp : Hp w0 [] w0 [] [⟨b1, o1, ints .u8 a1⟩]) {r : Int} (h : field_Of_1.f k a0 a1 = some r) :
    Calls Try.prog 39 [.int .i64 a0, .pointer (some ⟨b1, o1, none⟩)].toArray w0 fun x w' => ∃ v, x = .returned v ∧ v = .int .u64 r ∧ Hp w0 [] w' [] [⟨b1, o1, ints .u8 a1⟩] := by
  refine calls_in Try.func39 rfl (Nat.le_of_ble_eq_true (by kernel_rfl)) (by kernel_rfl) ?_
  intro e0 qe0
  have s0_e0 : e0 0 = .int .i64 a0 := congrFun qe0 0
  have s1_e0 : e0 1 = .pointer (some ⟨b1, o1, none⟩) := congrFun qe0 1
  clear qe0
  unfold field_Of_1.f at h
  refine wseq rfl ?_
  refine wregion (.tp 0 (.done)) [] rfl (by kernel_rfl) (by kernel_rfl) ?_
  refine k_assign (v := .int .u64 0) rfl rfl ?_
  refine k_end ?_; intro e1 qe1
  have s0_e1 : e1 0 = .int .i64 a0 := (congrFun qe1 0).trans s0_e0
  have s1_e1 : e1 1 = .pointer (some ⟨b1, o1, none⟩) := (congrFun qe1 1).trans s1_e0
  clear qe1
  refine wseq rfl ?_
  refine wregion (.tp 0 (.done)) [] rfl (by kernel_rfl) (by kernel_rfl) ?_
  refine k_assign (v := .int .u64 0) rfl rfl ?_
  refine k_end ?_; intro e2 qe2
  have s0_e2 : e2 0 = .int .i64 a0 := (congrFun qe2 0).trans s0_e1
  have s1_e2 : e2 1 = .pointer (some ⟨b1, o1, none⟩) := (congrFun qe2 1).trans s1_e1
  have s4_e2 : e2 4 = .int .u64 0 := congrFun qe2 4
  clear qe2
  refine wseq rfl ?_
  refine wseq rfl ?_
  refine wregion (.tp 0 (.done)) [] rfl (by kernel_rfl) (by kernel_rfl) ?_
  refine k_assign (v := .int .i64 7) rfl rfl ?_
  refine k_end ?_; intro e3 qe3
  have s0_e3 : e3 0 = .int .i64 a0 := (congrFun qe3 0).trans s0_e2
  have s1_e3 : e3 1 = .pointer (some ⟨b1, o1, none⟩) := (congrFun qe3 1).trans s1_e2
  have s4_e3 : e3 4 = .int .u64 0 := (congrFun qe3 4).trans s4_e2
  have s5_e3 : e3 5 = .int .i64 7 := congrFun qe3 5
  clear qe3
  refine wblock rfl ?_
  obtain ⟨r6, qr6, h⟩ := bd_e h
  refine wloop k rfl (field_Of_1.p1_ok b1 o1 a0 a1 la1 ?hq0 k 0 7 e3 _  s0_e3 s1_e3 s4_e3 s5_e3 hp qr6)
  case hq0 =>
    intro e7 w m7  s4_e7 hp qq
    rw [qq] at h; clear qq
    refine wseq rfl ?_
    refine wregion (.tp 0 (.tp 1 (.done))) [] rfl (by kernel_rfl) (by kernel_rfl) ?_
    refine k_move (v := .int .u64 m7) rfl s4_e7 ?_
    refine k_assign (v := .int .u64 m7) rfl rfl ?_
    refine k_end ?_; intro e8 qe8
    have s3_e8 : e8 3 = .int .u64 m7 := congrFun qe8 3
    clear qe8
    refine wret rfl ?_
    have hr : r = m7 := (Option.some.inj h).symm
    show RetP _ _ _ _ _
    rw [hr]
    exact ret_i [.int .u64 m7] (res_tmp s3_e8 res_nil) ⟨rfl, hp.none⟩
/-! 21 postilion/field.Of -/
theorem field_Of_ok (k : Nat) (a0 : List Int) (la0 : a0.length = 32) (w0 : World) (hp : Hp w0 [] w0 [] []) {r : List Int} (h : field_Of.f k a0 = some r) :
    Calls Try.prog 21 [.agg (ints .u8 a0).toArray].toArray w0 fun x w' => ∃ v, x = .returned v ∧ v = .agg (ints .u64 r).toArray ∧ r.length = 5 ∧ Hp w0 [] w' [] [] := by
  refine calls_in Try.func21 rfl (Nat.le_of_ble_eq_true (by kernel_rfl)) (by kernel_rfl) ?_
  intro e0 qe0
  have s0_e0 : e0 0 = .agg (ints .u8 a0).toArray := congrFun qe0 0
  clear qe0
  unfold field_Of.f at h
  refine wseq rfl ?_
  refine wregion (.ef 0 (.ef 1 (.done))) [] rfl (by kernel_rfl) (by kernel_rfl) ?_
  refine k_box (v := .agg (ints .u8 a0).toArray) (ints .u8 a0) rfl s0_e0 rfl hp ?_
  intro g1 w hbg1 hp
  refine k_alloc (ints .u64 (List.replicate 5 (0 : Int))) rfl (by kernel_rfl) hp ?_
  intro g2 w hbg2 hp
  refine k_end ?_; intro e9 qe9
  have s1_e9 : e9 1 = .pointer (some ⟨g1, 0, none⟩) := congrFun qe9 1
  have s2_e9 : e9 2 = .pointer (some ⟨g2, 0, none⟩) := congrFun qe9 2
  clear qe9
  refine wseq rfl ?_
  refine wregion (.tp 0 (.tp 1 (.done))) [] rfl (by kernel_rfl) (by kernel_rfl) ?_
  refine k_makeFunc [.pointer (some ⟨g1, 0, none⟩)] rfl (args1 s1_e9) ?_
  refine k_assign (v := .func (.func 39) #[] #[.pointer (some ⟨g1, 0, none⟩)]) rfl rfl ?_
  refine k_end ?_; intro e10 qe10
  have s1_e10 : e10 1 = .pointer (some ⟨g1, 0, none⟩) := (congrFun qe10 1).trans s1_e9
  have s2_e10 : e10 2 = .pointer (some ⟨g2, 0, none⟩) := (congrFun qe10 2).trans s2_e9
  have s3_e10 : e10 3 = .func (.func 39) #[] #[.pointer (some ⟨g1, 0, none⟩)] := congrFun qe10 3
  clear qe10
  refine wseq rfl ?_
  refine wregion (.tp 0 (.ef 1 (.tp 2 (.tp 3 (.ef 4 (.tp 5 (.tp 6 (.tp 7 (.ef 8 (.tp 9 (.tp 10 (.tp 11 (.ef 12 (.tp 13 (.tp 14 (.tp 15 (.ef 16 (.tp 17 (.tp 18 (.tp 19 (.ef 20 (.ef 21 (.done))))))))))))))))))))))) [21] rfl (by kernel_rfl) (by kernel_rfl) ?_
  refine k_move (v := .func (.func 39) #[] #[.pointer (some ⟨g1, 0, none⟩)]) rfl s3_e10 ?_
  obtain ⟨r3, qr3, h⟩ := bd_e h
  refine k_callV [.pointer (some ⟨g1, 0, none⟩)] [.int .i64 0] rfl (by kernel_rfl) rfl (args1 rfl) (field_Of_1_ok k 0 a0 g1 (0) la0 _ (hp.toR (fun r hr => by rw [List.mem_singleton] at hr; subst hr; exact .inl (List.mem_of_getElem? (i := 0) rfl))) qr3) ?_
  rintro _ w' ⟨_, rfl, rfl, hpc⟩
  refine ⟨_, rfl, .inr (.of_below hpc.chg.to_below), ?_⟩; have hp := hp.below hpc.chg.to_below; clear hpc
  refine k_bin (X := .int .u64 r3) (Y := .int .u64 2251799813685247) rfl rfl rfl rfl ?_
  refine k_move (v := .func (.func 39) #[] #[.pointer (some ⟨g1, 0, none⟩)]) rfl s3_e10 ?_
  obtain ⟨r4, qr4, h⟩ := bd_e h
  refine k_callV [.pointer (some ⟨g1, 0, none⟩)] [.int .i64 6] rfl (by kernel_rfl) rfl (args1 rfl) (field_Of_1_ok k 6 a0 g1 (0) la0 _ (hp.toR (fun r hr => by rw [List.mem_singleton] at hr; subst hr; exact .inl (List.mem_of_getElem? (i := 0) rfl))) qr4) ?_
  rintro _ w' ⟨_, rfl, rfl, hpc⟩
  refine ⟨_, rfl, .inr (.of_below hpc.chg.to_below), ?_⟩; have hp := hp.below hpc.chg.to_below; clear hpc
  refine k_shr (a := r4) (b := 3) rfl rfl rfl (by decide) ?_
  refine k_bin (X := .int .u64 (Int.fdiv r4 (2 ^ 3))) (Y := .int .u64 2251799813685247) rfl rfl rfl rfl ?_
  refine k_move (v := .func (.func 39) #[] #[.pointer (some ⟨g1, 0, none⟩)]) rfl s3_e10 ?_
  obtain ⟨r5, qr5, h⟩ := bd_e h
  refine k_callV [.pointer (some ⟨g1, 0, none⟩)] [.int .i64 12] rfl (by kernel_rfl) rfl (args1 rfl) (field_Of_1_ok k 12 a0 g1 (0) la0 _ (hp.toR (fun r hr => by rw [List.mem_singleton] at hr; subst hr; exact .inl (List.mem_of_getElem? (i := 0) rfl))) qr5) ?_
  rintro _ w' ⟨_, rfl, rfl, hpc⟩
  refine ⟨_, rfl, .inr (.of_below hpc.chg.to_below), ?_⟩; have hp := hp.below hpc.chg.to_below; clear hpc
  refine k_shr (a := r5) (b := 6) rfl rfl rfl (by decide) ?_
  refine k_bin (X := .int .u64 (Int.fdiv r5 (2 ^ 6))) (Y := .int .u64 2251799813685247) rfl rfl rfl rfl ?_
  refine k_move (v := .func (.func 39) #[] #[.pointer (some ⟨g1, 0, none⟩)]) rfl s3_e10 ?_
  obtain ⟨r6, qr6, h⟩ := bd_e h
  refine k_callV [.pointer (some ⟨g1, 0, none⟩)] [.int .i64 19] rfl (by kernel_rfl) rfl (args1 rfl) (field_Of_1_ok k 19 a0 g1 (0) la0 _ (hp.toR (fun r hr => by rw [List.mem_singleton] at hr; subst hr; exact .inl (List.mem_of_getElem? (i := 0) rfl))) qr6) ?_
  rintro _ w' ⟨_, rfl, rfl, hpc⟩
  refine ⟨_, rfl, .inr (.of_below hpc.chg.to_below), ?_⟩; have hp := hp.below hpc.chg.to_below; clear hpc
  refine k_shr (a := r6) (b := 1) rfl rfl rfl (by decide) ?_
  refine k_bin (X := .int .u64 (Int.fdiv r6 (2 ^ 1))) (Y := .int .u64 2251799813685247) rfl rfl rfl rfl ?_
  refine k_move (v := .func (.func 39) #[] #[.pointer (some ⟨g1, 0, none⟩)]) rfl s3_e10 ?_
  obtain ⟨r7, qr7, h⟩ := bd_e h
  refine k_callV [.pointer (some ⟨g1, 0, none⟩)] [.int .i64 24] rfl (by kernel_rfl) rfl (args1 rfl) (field_Of_1_ok k 24 a0 g1 (0) la0 _ (hp.toR (fun r hr => by rw [List.mem_singleton] at hr; subst hr; exact .inl (List.mem_of_getElem? (i := 0) rfl))) qr7) ?_
  rintro _ w' ⟨_, rfl, rfl, hpc⟩
  refine ⟨_, rfl, .inr (.of_below hpc.chg.to_below), ?_⟩; have hp := hp.below hpc.chg.to_below; clear hpc
  refine k_shr (a := r7) (b := 12) rfl rfl rfl (by decide) ?_
  refine k_bin (X := .int .u64 (Int.fdiv r7 (2 ^ 12))) (Y := .int .u64 2251799813685247) rfl rfl rfl rfl ?_
  refine k_build (v := .agg (ints .u64 [(bits .and .u64 r3 2251799813685247), (bits .and .u64 (Int.fdiv r4 (2 ^ 3)) 2251799813685247), (bits .and .u64 (Int.fdiv r5 (2 ^ 6)) 2251799813685247), (bits .and .u64 (Int.fdiv r6 (2 ^ 1)) 2251799813685247), (bits .and .u64 (Int.fdiv r7 (2 ^ 12)) 2251799813685247)]).toArray) rfl (fun _ => by kernel_rfl) ?_
  refine k_alloc (ints .u64 (List.replicate 5 (0 : Int))) rfl (by kernel_rfl) hp ?_
  intro g8 w hbg8 hp
  refine k_storeA (v := .agg (ints .u64 [(bits .and .u64 r3 2251799813685247), (bits .and .u64 (Int.fdiv r4 (2 ^ 3)) 2251799813685247), (bits .and .u64 (Int.fdiv r5 (2 ^ 6)) 2251799813685247), (bits .and .u64 (Int.fdiv r6 (2 ^ 1)) 2251799813685247), (bits .and .u64 (Int.fdiv r7 (2 ^ 12)) 2251799813685247)]).toArray) 2 0 (r := ⟨g8, 0, ints .u64 (List.replicate 5 (0 : Int))⟩) (ints .u64 [(bits .and .u64 r3 2251799813685247), (bits .and .u64 (Int.fdiv r4 (2 ^ 3)) 2251799813685247), (bits .and .u64 (Int.fdiv r5 (2 ^ 6)) 2251799813685247), (bits .and .u64 (Int.fdiv r6 (2 ^ 1)) 2251799813685247), (bits .and .u64 (Int.fdiv r7 (2 ^ 12)) 2251799813685247)]) (ints .u64 [(bits .and .u64 r3 2251799813685247), (bits .and .u64 (Int.fdiv r4 (2 ^ 3)) 2251799813685247), (bits .and .u64 (Int.fdiv r5 (2 ^ 6)) 2251799813685247), (bits .and .u64 (Int.fdiv r6 (2 ^ 1)) 2251799813685247), (bits .and .u64 (Int.fdiv r7 (2 ^ 12)) 2251799813685247)]) rfl (n := 5) (by kernel_rfl) rfl rfl rfl ((ints_length _ _).trans (rfl : List.length ([(bits .and .u64 r3 2251799813685247), (bits .and .u64 (Int.fdiv r4 (2 ^ 3)) 2251799813685247), (bits .and .u64 (Int.fdiv r5 (2 ^ 6)) 2251799813685247), (bits .and .u64 (Int.fdiv r6 (2 ^ 1)) 2251799813685247), (bits .and .u64 (Int.fdiv r7 (2 ^ 12)) 2251799813685247)] : List Int) = 5)) (ints_one _ _) hp rfl rfl rfl (Nat.le_of_eq ((Nat.zero_add _).trans ((ints_length _ _).trans List.length_replicate).symm)) (setMany_all _ _ (((ints_length _ _).trans (rfl : List.length ([(bits .and .u64 r3 2251799813685247), (bits .and .u64 (Int.fdiv r4 (2 ^ 3)) 2251799813685247), (bits .and .u64 (Int.fdiv r5 (2 ^ 6)) 2251799813685247), (bits .and .u64 (Int.fdiv r6 (2 ^ 1)) 2251799813685247), (bits .and .u64 (Int.fdiv r7 (2 ^ 12)) 2251799813685247)] : List Int) = 5)).trans ((ints_length _ _).trans List.length_replicate).symm)) (by decide) ?_; intro w hp
  refine k_end ?_; intro e11 qe11
  have s1_e11 : e11 1 = .pointer (some ⟨g1, 0, none⟩) := (congrFun qe11 1).trans s1_e10
  have s2_e11 : e11 2 = .pointer (some ⟨g2, 0, none⟩) := (congrFun qe11 2).trans s2_e10
  have s4_e11 : e11 4 = .pointer (some ⟨g8, 0, none⟩) := congrFun qe11 4
  clear qe11
  refine wseq rfl ?_
  refine wregion (.tp 0 (.tk 1 (.tp 2 (.tk 3 (.tp 4 (.tp 5 (.tp 6 (.tp 7 (.tp 8 (.ef 9 (.done))))))))))) [9] rfl (by kernel_rfl) (by kernel_rfl) ?_
  refine k_indexA (n := 5) (s := 1) (j := 0) rfl Try.underlying34 (by kernel_rfl) s4_e11 rfl (by decide) ?_
  refine k_load (j := 0) (v := .int .u64 ([(bits .and .u64 r3 2251799813685247), (bits .and .u64 (Int.fdiv r4 (2 ^ 3)) 2251799813685247), (bits .and .u64 (Int.fdiv r5 (2 ^ 6)) 2251799813685247), (bits .and .u64 (Int.fdiv r6 (2 ^ 1)) 2251799813685247), (bits .and .u64 (Int.fdiv r7 (2 ^ 12)) 2251799813685247)].getD 0 0)) rfl (by kernel_rfl) rfl (hp.get (j := 2) rfl) rfl rfl (ints_get (Nat.lt_of_lt_of_eq (m := 5) (by decide) (rfl : List.length ([(bits .and .u64 r3 2251799813685247), (bits .and .u64 (Int.fdiv r4 (2 ^ 3)) 2251799813685247), (bits .and .u64 (Int.fdiv r5 (2 ^ 6)) 2251799813685247), (bits .and .u64 (Int.fdiv r6 (2 ^ 1)) 2251799813685247), (bits .and .u64 (Int.fdiv r7 (2 ^ 12)) 2251799813685247)] : List Int) = 5).symm)) ?_
  refine k_indexA (n := 32) (s := 1) (j := 31) rfl Try.underlying22 (by kernel_rfl) s1_e11 rfl (by decide) ?_
  refine k_load (j := 31) (v := .int .u8 (a0.getD 31 0)) rfl (by kernel_rfl) rfl (hp.get (j := 0) rfl) rfl rfl (ints_get (Nat.lt_of_lt_of_eq (m := 32) (by decide) (la0).symm)) ?_
  refine k_shr (a := (a0.getD 31 0)) (b := 7) rfl rfl rfl (by decide) ?_
  refine k_conv (k := .u64) (k' := .u8) (n := (Int.fdiv (a0.getD 31 0) (2 ^ 7))) rfl Try.underlying5 Try.underlying32 rfl ?_
  refine k_bin (X := .int .u64 19) (Y := .int .u64 (IntKind.u64.wrap (Int.fdiv (a0.getD 31 0) (2 ^ 7)))) rfl rfl rfl rfl ?_
  refine k_bin (X := .int .u64 ([(bits .and .u64 r3 2251799813685247), (bits .and .u64 (Int.fdiv r4 (2 ^ 3)) 2251799813685247), (bits .and .u64 (Int.fdiv r5 (2 ^ 6)) 2251799813685247), (bits .and .u64 (Int.fdiv r6 (2 ^ 1)) 2251799813685247), (bits .and .u64 (Int.fdiv r7 (2 ^ 12)) 2251799813685247)].getD 0 0)) (Y := .int .u64 (IntKind.u64.wrap (19 * (IntKind.u64.wrap (Int.fdiv (a0.getD 31 0) (2 ^ 7)))))) rfl rfl rfl rfl ?_
  refine k_indexA (n := 5) (s := 1) (j := 0) rfl Try.underlying34 (by kernel_rfl) s4_e11 rfl (by decide) ?_
  refine k_store (v := .int .u64 (IntKind.u64.wrap (([(bits .and .u64 r3 2251799813685247), (bits .and .u64 (Int.fdiv r4 (2 ^ 3)) 2251799813685247), (bits .and .u64 (Int.fdiv r5 (2 ^ 6)) 2251799813685247), (bits .and .u64 (Int.fdiv r6 (2 ^ 1)) 2251799813685247), (bits .and .u64 (Int.fdiv r7 (2 ^ 12)) 2251799813685247)].getD 0 0) + (IntKind.u64.wrap (19 * (IntKind.u64.wrap (Int.fdiv (a0.getD 31 0) (2 ^ 7)))))))) 2 0 (r := ⟨g8, 0, ints .u64 [(bits .and .u64 r3 2251799813685247), (bits .and .u64 (Int.fdiv r4 (2 ^ 3)) 2251799813685247), (bits .and .u64 (Int.fdiv r5 (2 ^ 6)) 2251799813685247), (bits .and .u64 (Int.fdiv r6 (2 ^ 1)) 2251799813685247), (bits .and .u64 (Int.fdiv r7 (2 ^ 12)) 2251799813685247)]⟩) rfl (by kernel_rfl) rfl rfl rfl hp rfl rfl rfl (Nat.lt_of_lt_of_eq (Nat.lt_of_lt_of_eq (m := 5) (by decide) (rfl : List.length ([(bits .and .u64 r3 2251799813685247), (bits .and .u64 (Int.fdiv r4 (2 ^ 3)) 2251799813685247), (bits .and .u64 (Int.fdiv r5 (2 ^ 6)) 2251799813685247), (bits .and .u64 (Int.fdiv r6 (2 ^ 1)) 2251799813685247), (bits .and .u64 (Int.fdiv r7 (2 ^ 12)) 2251799813685247)] : List Int) = 5).symm) (ints_length _ _).symm) (by decide) ?_; intro w hp; rw [ints_set] at hp
  refine k_end ?_; intro e12 qe12
  have s2_e12 : e12 2 = .pointer (some ⟨g2, 0, none⟩) := (congrFun qe12 2).trans s2_e11
  have s4_e12 : e12 4 = .pointer (some ⟨g8, 0, none⟩) := (congrFun qe12 4).trans s4_e11
  clear qe12
  refine wseq rfl ?_
  refine wregion (.tk 0 (.ef 1 (.done))) [1] rfl (by kernel_rfl) (by kernel_rfl) ?_
  refine k_loadA (n := 5) (xs := ints .u64 ([(bits .and .u64 r3 2251799813685247), (bits .and .u64 (Int.fdiv r4 (2 ^ 3)) 2251799813685247), (bits .and .u64 (Int.fdiv r5 (2 ^ 6)) 2251799813685247), (bits .and .u64 (Int.fdiv r6 (2 ^ 1)) 2251799813685247), (bits .and .u64 (Int.fdiv r7 (2 ^ 12)) 2251799813685247)].set 0 (IntKind.u64.wrap (([(bits .and .u64 r3 2251799813685247), (bits .and .u64 (Int.fdiv r4 (2 ^ 3)) 2251799813685247), (bits .and .u64 (Int.fdiv r5 (2 ^ 6)) 2251799813685247), (bits .and .u64 (Int.fdiv r6 (2 ^ 1)) 2251799813685247), (bits .and .u64 (Int.fdiv r7 (2 ^ 12)) 2251799813685247)].getD 0 0) + (IntKind.u64.wrap (19 * (IntKind.u64.wrap (Int.fdiv (a0.getD 31 0) (2 ^ 7))))))))) 0 rfl (by kernel_rfl) (by kernel_rfl) s4_e12 (hp.get (j := 2) rfl) rfl rfl ((ints_length _ _).trans (List.length_set.trans (rfl : List.length ([(bits .and .u64 r3 2251799813685247), (bits .and .u64 (Int.fdiv r4 (2 ^ 3)) 2251799813685247), (bits .and .u64 (Int.fdiv r5 (2 ^ 6)) 2251799813685247), (bits .and .u64 (Int.fdiv r6 (2 ^ 1)) 2251799813685247), (bits .and .u64 (Int.fdiv r7 (2 ^ 12)) 2251799813685247)] : List Int) = 5))) (fun m v hm => by rw [Nat.zero_add]; exact hm) ?_
  refine k_storeA (v := .agg (ints .u64 ([(bits .and .u64 r3 2251799813685247), (bits .and .u64 (Int.fdiv r4 (2 ^ 3)) 2251799813685247), (bits .and .u64 (Int.fdiv r5 (2 ^ 6)) 2251799813685247), (bits .and .u64 (Int.fdiv r6 (2 ^ 1)) 2251799813685247), (bits .and .u64 (Int.fdiv r7 (2 ^ 12)) 2251799813685247)].set 0 (IntKind.u64.wrap (([(bits .and .u64 r3 2251799813685247), (bits .and .u64 (Int.fdiv r4 (2 ^ 3)) 2251799813685247), (bits .and .u64 (Int.fdiv r5 (2 ^ 6)) 2251799813685247), (bits .and .u64 (Int.fdiv r6 (2 ^ 1)) 2251799813685247), (bits .and .u64 (Int.fdiv r7 (2 ^ 12)) 2251799813685247)].getD 0 0) + (IntKind.u64.wrap (19 * (IntKind.u64.wrap (Int.fdiv (a0.getD 31 0) (2 ^ 7))))))))).toArray) 1 0 (r := ⟨g2, 0, ints .u64 (List.replicate 5 (0 : Int))⟩) (ints .u64 ([(bits .and .u64 r3 2251799813685247), (bits .and .u64 (Int.fdiv r4 (2 ^ 3)) 2251799813685247), (bits .and .u64 (Int.fdiv r5 (2 ^ 6)) 2251799813685247), (bits .and .u64 (Int.fdiv r6 (2 ^ 1)) 2251799813685247), (bits .and .u64 (Int.fdiv r7 (2 ^ 12)) 2251799813685247)].set 0 (IntKind.u64.wrap (([(bits .and .u64 r3 2251799813685247), (bits .and .u64 (Int.fdiv r4 (2 ^ 3)) 2251799813685247), (bits .and .u64 (Int.fdiv r5 (2 ^ 6)) 2251799813685247), (bits .and .u64 (Int.fdiv r6 (2 ^ 1)) 2251799813685247), (bits .and .u64 (Int.fdiv r7 (2 ^ 12)) 2251799813685247)].getD 0 0) + (IntKind.u64.wrap (19 * (IntKind.u64.wrap (Int.fdiv (a0.getD 31 0) (2 ^ 7))))))))) (ints .u64 ([(bits .and .u64 r3 2251799813685247), (bits .and .u64 (Int.fdiv r4 (2 ^ 3)) 2251799813685247), (bits .and .u64 (Int.fdiv r5 (2 ^ 6)) 2251799813685247), (bits .and .u64 (Int.fdiv r6 (2 ^ 1)) 2251799813685247), (bits .and .u64 (Int.fdiv r7 (2 ^ 12)) 2251799813685247)].set 0 (IntKind.u64.wrap (([(bits .and .u64 r3 2251799813685247), (bits .and .u64 (Int.fdiv r4 (2 ^ 3)) 2251799813685247), (bits .and .u64 (Int.fdiv r5 (2 ^ 6)) 2251799813685247), (bits .and .u64 (Int.fdiv r6 (2 ^ 1)) 2251799813685247), (bits .and .u64 (Int.fdiv r7 (2 ^ 12)) 2251799813685247)].getD 0 0) + (IntKind.u64.wrap (19 * (IntKind.u64.wrap (Int.fdiv (a0.getD 31 0) (2 ^ 7))))))))) rfl (n := 5) (by kernel_rfl) s2_e12 rfl rfl ((ints_length _ _).trans (List.length_set.trans (rfl : List.length ([(bits .and .u64 r3 2251799813685247), (bits .and .u64 (Int.fdiv r4 (2 ^ 3)) 2251799813685247), (bits .and .u64 (Int.fdiv r5 (2 ^ 6)) 2251799813685247), (bits .and .u64 (Int.fdiv r6 (2 ^ 1)) 2251799813685247), (bits .and .u64 (Int.fdiv r7 (2 ^ 12)) 2251799813685247)] : List Int) = 5))) (ints_one _ _) hp rfl rfl rfl (Nat.le_of_eq ((Nat.zero_add _).trans ((ints_length _ _).trans List.length_replicate).symm)) (setMany_all _ _ (((ints_length _ _).trans (List.length_set.trans (rfl : List.length ([(bits .and .u64 r3 2251799813685247), (bits .and .u64 (Int.fdiv r4 (2 ^ 3)) 2251799813685247), (bits .and .u64 (Int.fdiv r5 (2 ^ 6)) 2251799813685247), (bits .and .u64 (Int.fdiv r6 (2 ^ 1)) 2251799813685247), (bits .and .u64 (Int.fdiv r7 (2 ^ 12)) 2251799813685247)] : List Int) = 5))).trans ((ints_length _ _).trans List.length_replicate).symm)) (by decide) ?_; intro w hp
  refine k_end ?_; intro e13 qe13
  have s2_e13 : e13 2 = .pointer (some ⟨g2, 0, none⟩) := (congrFun qe13 2).trans s2_e12
  clear qe13
  refine wret rfl ?_
  have hr : r = ([(bits .and .u64 r3 2251799813685247), (bits .and .u64 (Int.fdiv r4 (2 ^ 3)) 2251799813685247), (bits .and .u64 (Int.fdiv r5 (2 ^ 6)) 2251799813685247), (bits .and .u64 (Int.fdiv r6 (2 ^ 1)) 2251799813685247), (bits .and .u64 (Int.fdiv r7 (2 ^ 12)) 2251799813685247)].set 0 (IntKind.u64.wrap (([(bits .and .u64 r3 2251799813685247), (bits .and .u64 (Int.fdiv r4 (2 ^ 3)) 2251799813685247), (bits .and .u64 (Int.fdiv r5 (2 ^ 6)) 2251799813685247), (bits .and .u64 (Int.fdiv r6 (2 ^ 1)) 2251799813685247), (bits .and .u64 (Int.fdiv r7 (2 ^ 12)) 2251799813685247)].getD 0 0) + (IntKind.u64.wrap (19 * (IntKind.u64.wrap (Int.fdiv (a0.getD 31 0) (2 ^ 7)))))))) := (Option.some.inj h).symm
  show RetP _ _ _ _ _
  rw [hr]
  exact ret_i [.agg (ints .u64 ([(bits .and .u64 r3 2251799813685247), (bits .and .u64 (Int.fdiv r4 (2 ^ 3)) 2251799813685247), (bits .and .u64 (Int.fdiv r5 (2 ^ 6)) 2251799813685247), (bits .and .u64 (Int.fdiv r6 (2 ^ 1)) 2251799813685247), (bits .and .u64 (Int.fdiv r7 (2 ^ 12)) 2251799813685247)].set 0 (IntKind.u64.wrap (([(bits .and .u64 r3 2251799813685247), (bits .and .u64 (Int.fdiv r4 (2 ^ 3)) 2251799813685247), (bits .and .u64 (Int.fdiv r5 (2 ^ 6)) 2251799813685247), (bits .and .u64 (Int.fdiv r6 (2 ^ 1)) 2251799813685247), (bits .and .u64 (Int.fdiv r7 (2 ^ 12)) 2251799813685247)].getD 0 0) + (IntKind.u64.wrap (19 * (IntKind.u64.wrap (Int.fdiv (a0.getD 31 0) (2 ^ 7))))))))).toArray] (res_cell s2_e13 (loadVar_agg (by kernel_rfl) (by kernel_rfl) ((ints_length _ _).trans (List.length_set.trans (rfl : List.length ([(bits .and .u64 r3 2251799813685247), (bits .and .u64 (Int.fdiv r4 (2 ^ 3)) 2251799813685247), (bits .and .u64 (Int.fdiv r5 (2 ^ 6)) 2251799813685247), (bits .and .u64 (Int.fdiv r6 (2 ^ 1)) 2251799813685247), (bits .and .u64 (Int.fdiv r7 (2 ^ 12)) 2251799813685247)] : List Int) = 5))) (hp.get (j := 1) rfl) rfl rfl rfl) res_nil) ⟨rfl, (List.length_set.trans (rfl : List.length ([(bits .and .u64 r3 2251799813685247), (bits .and .u64 (Int.fdiv r4 (2 ^ 3)) 2251799813685247), (bits .and .u64 (Int.fdiv r5 (2 ^ 6)) 2251799813685247), (bits .and .u64 (Int.fdiv r6 (2 ^ 1)) 2251799813685247), (bits .and .u64 (Int.fdiv r7 (2 ^ 12)) 2251799813685247)] : List Int) = 5)), hp.none⟩
/-! 56 math/bits.Mul64 -/
theorem math_bits_Mul64_ok (a0 : Int) (a1 : Int) (w0 : World) (hp : Hp w0 [] w0 [] []) {r : Int × Int} (h : math_bits_Mul64.f a0 a1 = some r) :
    Calls Try.prog 56 [.int .u64 a0, .int .u64 a1].toArray w0 fun x w' => ∃ v, x = .returned v ∧ v = .tuple #[.int .u64 r.1, .int .u64 r.2] ∧ Hp w0 [] w' [] [] := by
  refine calls_in Try.func56 rfl (Nat.le_of_ble_eq_true (by kernel_rfl)) (by kernel_rfl) ?_
  intro e0 qe0
  have s0_e0 : e0 0 = .int .u64 a0 := congrFun qe0 0
  have s1_e0 : e0 1 = .int .u64 a1 := congrFun qe0 1
  clear qe0
  unfold math_bits_Mul64.f at h
  refine wseq rfl ?_
  refine wregion (.tp 0 (.tp 1 (.done))) [] rfl (by kernel_rfl) (by kernel_rfl) ?_
  refine k_assign (v := .int .u64 0) rfl rfl ?_
  refine k_assign (v := .int .u64 0) rfl rfl ?_
  refine k_end ?_; intro e14 qe14
  have s0_e14 : e14 0 = .int .u64 a0 := (congrFun qe14 0).trans s0_e0
  have s1_e14 : e14 1 = .int .u64 a1 := (congrFun qe14 1).trans s1_e0
  clear qe14
  refine wseq rfl ?_
  refine wregion (.tp 0 (.tp 1 (.tp 2 (.done)))) [] rfl (by kernel_rfl) (by kernel_rfl) ?_
  refine k_move (v := .int .u64 a0) rfl s0_e14 ?_
  refine k_bin (X := .int .u64 a0) (Y := .int .u64 4294967295) rfl rfl rfl rfl ?_
  refine k_assign (v := .int .u64 (bits .and .u64 a0 4294967295)) rfl rfl ?_
  refine k_end ?_; intro e15 qe15
  have s0_e15 : e15 0 = .int .u64 a0 := (congrFun qe15 0).trans s0_e14
  have s1_e15 : e15 1 = .int .u64 a1 := (congrFun qe15 1).trans s1_e14
  obtain ⟨x1, qx1, h⟩ := lt_e h
  have s6_e15 : e15 6 = .int .u64 x1 := (congrFun qe15 6).trans (congrArg (Value.int .u64) qx1.symm)
  clear qe15
  refine wseq rfl ?_
  refine wregion (.tp 0 (.tp 1 (.tp 2 (.done)))) [] rfl (by kernel_rfl) (by kernel_rfl) ?_
  refine k_move (v := .int .u64 a0) rfl s0_e15 ?_
  refine k_shr (a := a0) (b := 32) rfl rfl rfl (by decide) ?_
  refine k_assign (v := .int .u64 (Int.fdiv a0 (2 ^ 32))) rfl rfl ?_
  refine k_end ?_; intro e16 qe16
  have s0_e16 : e16 0 = .int .u64 a0 := (congrFun qe16 0).trans s0_e15
  have s1_e16 : e16 1 = .int .u64 a1 := (congrFun qe16 1).trans s1_e15
  have s6_e16 : e16 6 = .int .u64 x1 := (congrFun qe16 6).trans s6_e15
  obtain ⟨x2, qx2, h⟩ := lt_e h
  have s7_e16 : e16 7 = .int .u64 x2 := (congrFun qe16 7).trans (congrArg (Value.int .u64) qx2.symm)
  clear qe16
  refine wseq rfl ?_
  refine wregion (.tp 0 (.tp 1 (.tp 2 (.done)))) [] rfl (by kernel_rfl) (by kernel_rfl) ?_
  refine k_move (v := .int .u64 a1) rfl s1_e16 ?_
  refine k_bin (X := .int .u64 a1) (Y := .int .u64 4294967295) rfl rfl rfl rfl ?_
  refine k_assign (v := .int .u64 (bits .and .u64 a1 4294967295)) rfl rfl ?_
  refine k_end ?_; intro e17 qe17
  have s0_e17 : e17 0 = .int .u64 a0 := (congrFun qe17 0).trans s0_e16
  have s1_e17 : e17 1 = .int .u64 a1 := (congrFun qe17 1).trans s1_e16
  have s6_e17 : e17 6 = .int .u64 x1 := (congrFun qe17 6).trans s6_e16
  have s7_e17 : e17 7 = .int .u64 x2 := (congrFun qe17 7).trans s7_e16
  obtain ⟨x3, qx3, h⟩ := lt_e h
  have s8_e17 : e17 8 = .int .u64 x3 := (congrFun qe17 8).trans (congrArg (Value.int .u64) qx3.symm)
  clear qe17
  refine wseq rfl ?_
  refine wregion (.tp 0 (.tp 1 (.tp 2 (.done)))) [] rfl (by kernel_rfl) (by kernel_rfl) ?_
  refine k_move (v := .int .u64 a1) rfl s1_e17 ?_
  refine k_shr (a := a1) (b := 32) rfl rfl rfl (by decide) ?_
  refine k_assign (v := .int .u64 (Int.fdiv a1 (2 ^ 32))) rfl rfl ?_
  refine k_end ?_; intro e18 qe18
  have s0_e18 : e18 0 = .int .u64 a0 := (congrFun qe18 0).trans s0_e17
  have s1_e18 : e18 1 = .int .u64 a1 := (congrFun qe18 1).trans s1_e17
  have s6_e18 : e18 6 = .int .u64 x1 := (congrFun qe18 6).trans s6_e17
  have s7_e18 : e18 7 = .int .u64 x2 := (congrFun qe18 7).trans s7_e17
  have s8_e18 : e18 8 = .int .u64 x3 := (congrFun qe18 8).trans s8_e17
  obtain ⟨x4, qx4, h⟩ := lt_e h
  have s9_e18 : e18 9 = .int .u64 x4 := (congrFun qe18 9).trans (congrArg (Value.int .u64) qx4.symm)
  clear qe18
  refine wseq rfl ?_
  refine wregion (.tp 0 (.tp 1 (.tp 2 (.tp 3 (.done))))) [] rfl (by kernel_rfl) (by kernel_rfl) ?_
  refine k_move (v := .int .u64 x1) rfl s6_e18 ?_
  refine k_move (v := .int .u64 x3) rfl s8_e18 ?_
  refine k_bin (X := .int .u64 x1) (Y := .int .u64 x3) rfl rfl rfl rfl ?_
  refine k_assign (v := .int .u64 (IntKind.u64.wrap (x1 * x3))) rfl rfl ?_
  refine k_end ?_; intro e19 qe19
  have s0_e19 : e19 0 = .int .u64 a0 := (congrFun qe19 0).trans s0_e18
  have s1_e19 : e19 1 = .int .u64 a1 := (congrFun qe19 1).trans s1_e18
  have s6_e19 : e19 6 = .int .u64 x1 := (congrFun qe19 6).trans s6_e18
  have s7_e19 : e19 7 = .int .u64 x2 := (congrFun qe19 7).trans s7_e18
  have s8_e19 : e19 8 = .int .u64 x3 := (congrFun qe19 8).trans s8_e18
  have s9_e19 : e19 9 = .int .u64 x4 := (congrFun qe19 9).trans s9_e18
  obtain ⟨x5, qx5, h⟩ := lt_e h
  have s10_e19 : e19 10 = .int .u64 x5 := (congrFun qe19 10).trans (congrArg (Value.int .u64) qx5.symm)
  clear qe19
  refine wseq rfl ?_
  refine wregion (.tp 0 (.tp 1 (.tp 2 (.tp 3 (.tp 4 (.tp 5 (.tp 6 (.done)))))))) [] rfl (by kernel_rfl) (by kernel_rfl) ?_
  refine k_move (v := .int .u64 x2) rfl s7_e19 ?_
  refine k_move (v := .int .u64 x3) rfl s8_e19 ?_
  refine k_bin (X := .int .u64 x2) (Y := .int .u64 x3) rfl rfl rfl rfl ?_
  refine k_move (v := .int .u64 x5) rfl s10_e19 ?_
  refine k_shr (a := x5) (b := 32) rfl rfl rfl (by decide) ?_
  refine k_bin (X := .int .u64 (IntKind.u64.wrap (x2 * x3))) (Y := .int .u64 (Int.fdiv x5 (2 ^ 32))) rfl rfl rfl rfl ?_
  refine k_assign (v := .int .u64 (IntKind.u64.wrap ((IntKind.u64.wrap (x2 * x3)) + (Int.fdiv x5 (2 ^ 32))))) rfl rfl ?_
  refine k_end ?_; intro e20 qe20
  have s0_e20 : e20 0 = .int .u64 a0 := (congrFun qe20 0).trans s0_e19
  have s1_e20 : e20 1 = .int .u64 a1 := (congrFun qe20 1).trans s1_e19
  have s6_e20 : e20 6 = .int .u64 x1 := (congrFun qe20 6).trans s6_e19
  have s7_e20 : e20 7 = .int .u64 x2 := (congrFun qe20 7).trans s7_e19
  have s9_e20 : e20 9 = .int .u64 x4 := (congrFun qe20 9).trans s9_e19
  obtain ⟨x6, qx6, h⟩ := lt_e h
  have s11_e20 : e20 11 = .int .u64 x6 := (congrFun qe20 11).trans (congrArg (Value.int .u64) qx6.symm)
  clear qe20
  refine wseq rfl ?_
  refine wregion (.tp 0 (.tp 1 (.tp 2 (.done)))) [] rfl (by kernel_rfl) (by kernel_rfl) ?_
  refine k_move (v := .int .u64 x6) rfl s11_e20 ?_
  refine k_bin (X := .int .u64 x6) (Y := .int .u64 4294967295) rfl rfl rfl rfl ?_
  refine k_assign (v := .int .u64 (bits .and .u64 x6 4294967295)) rfl rfl ?_
  refine k_end ?_; intro e21 qe21
  have s0_e21 : e21 0 = .int .u64 a0 := (congrFun qe21 0).trans s0_e20
  have s1_e21 : e21 1 = .int .u64 a1 := (congrFun qe21 1).trans s1_e20
  have s6_e21 : e21 6 = .int .u64 x1 := (congrFun qe21 6).trans s6_e20
  have s7_e21 : e21 7 = .int .u64 x2 := (congrFun qe21 7).trans s7_e20
  have s9_e21 : e21 9 = .int .u64 x4 := (congrFun qe21 9).trans s9_e20
  have s11_e21 : e21 11 = .int .u64 x6 := (congrFun qe21 11).trans s11_e20
  obtain ⟨x7, qx7, h⟩ := lt_e h
  have s12_e21 : e21 12 = .int .u64 x7 := (congrFun qe21 12).trans (congrArg (Value.int .u64) qx7.symm)
  clear qe21
  refine wseq rfl ?_
  refine wregion (.tp 0 (.tp 1 (.tp 2 (.done)))) [] rfl (by kernel_rfl) (by kernel_rfl) ?_
  refine k_move (v := .int .u64 x6) rfl s11_e21 ?_
  refine k_shr (a := x6) (b := 32) rfl rfl rfl (by decide) ?_
  refine k_assign (v := .int .u64 (Int.fdiv x6 (2 ^ 32))) rfl rfl ?_
  refine k_end ?_; intro e22 qe22
  have s0_e22 : e22 0 = .int .u64 a0 := (congrFun qe22 0).trans s0_e21
  have s1_e22 : e22 1 = .int .u64 a1 := (congrFun qe22 1).trans s1_e21
  have s6_e22 : e22 6 = .int .u64 x1 := (congrFun qe22 6).trans s6_e21
  have s7_e22 : e22 7 = .int .u64 x2 := (congrFun qe22 7).trans s7_e21
  have s9_e22 : e22 9 = .int .u64 x4 := (congrFun qe22 9).trans s9_e21
  have s12_e22 : e22 12 = .int .u64 x7 := (congrFun qe22 12).trans s12_e21
  obtain ⟨x8, qx8, h⟩ := lt_e h
  have s13_e22 : e22 13 = .int .u64 x8 := (congrFun qe22 13).trans (congrArg (Value.int .u64) qx8.symm)
  clear qe22
  refine wseq rfl ?_
  refine wregion (.tp 0 (.tp 1 (.tp 2 (.tp 3 (.tp 4 (.tp 5 (.done))))))) [] rfl (by kernel_rfl) (by kernel_rfl) ?_
  refine k_move (v := .int .u64 x7) rfl s12_e22 ?_
  refine k_move (v := .int .u64 x1) rfl s6_e22 ?_
  refine k_move (v := .int .u64 x4) rfl s9_e22 ?_
  refine k_bin (X := .int .u64 x1) (Y := .int .u64 x4) rfl rfl rfl rfl ?_
  refine k_bin (X := .int .u64 x7) (Y := .int .u64 (IntKind.u64.wrap (x1 * x4))) rfl rfl rfl rfl ?_
  refine k_assign (v := .int .u64 (IntKind.u64.wrap (x7 + (IntKind.u64.wrap (x1 * x4))))) rfl rfl ?_
  refine k_end ?_; intro e23 qe23
  have s0_e23 : e23 0 = .int .u64 a0 := (congrFun qe23 0).trans s0_e22
  have s1_e23 : e23 1 = .int .u64 a1 := (congrFun qe23 1).trans s1_e22
  have s7_e23 : e23 7 = .int .u64 x2 := (congrFun qe23 7).trans s7_e22
  have s9_e23 : e23 9 = .int .u64 x4 := (congrFun qe23 9).trans s9_e22
  obtain ⟨x9, qx9, h⟩ := lt_e h
  have s12_e23 : e23 12 = .int .u64 x9 := (congrFun qe23 12).trans (congrArg (Value.int .u64) qx9.symm)
  have s13_e23 : e23 13 = .int .u64 x8 := (congrFun qe23 13).trans s13_e22
  clear qe23
  refine wseq rfl ?_
  refine wregion (.tp 0 (.tp 1 (.tp 2 (.tp 3 (.tp 4 (.tp 5 (.tp 6 (.tp 7 (.tp 8 (.done)))))))))) [] rfl (by kernel_rfl) (by kernel_rfl) ?_
  refine k_move (v := .int .u64 x2) rfl s7_e23 ?_
  refine k_move (v := .int .u64 x4) rfl s9_e23 ?_
  refine k_bin (X := .int .u64 x2) (Y := .int .u64 x4) rfl rfl rfl rfl ?_
  refine k_move (v := .int .u64 x8) rfl s13_e23 ?_
  refine k_bin (X := .int .u64 (IntKind.u64.wrap (x2 * x4))) (Y := .int .u64 x8) rfl rfl rfl rfl ?_
  refine k_move (v := .int .u64 x9) rfl s12_e23 ?_
  refine k_shr (a := x9) (b := 32) rfl rfl rfl (by decide) ?_
  refine k_bin (X := .int .u64 (IntKind.u64.wrap ((IntKind.u64.wrap (x2 * x4)) + x8))) (Y := .int .u64 (Int.fdiv x9 (2 ^ 32))) rfl rfl rfl rfl ?_
  refine k_assign (v := .int .u64 (IntKind.u64.wrap ((IntKind.u64.wrap ((IntKind.u64.wrap (x2 * x4)) + x8)) + (Int.fdiv x9 (2 ^ 32))))) rfl rfl ?_
  refine k_end ?_; intro e24 qe24
  have s0_e24 : e24 0 = .int .u64 a0 := (congrFun qe24 0).trans s0_e23
  have s1_e24 : e24 1 = .int .u64 a1 := (congrFun qe24 1).trans s1_e23
  obtain ⟨x10, qx10, h⟩ := lt_e h
  have s4_e24 : e24 4 = .int .u64 x10 := (congrFun qe24 4).trans (congrArg (Value.int .u64) qx10.symm)
  clear qe24
  refine wseq rfl ?_
  refine wregion (.tp 0 (.tp 1 (.tp 2 (.tp 3 (.done))))) [] rfl (by kernel_rfl) (by kernel_rfl) ?_
  refine k_move (v := .int .u64 a0) rfl s0_e24 ?_
  refine k_move (v := .int .u64 a1) rfl s1_e24 ?_
  refine k_bin (X := .int .u64 a0) (Y := .int .u64 a1) rfl rfl rfl rfl ?_
  refine k_assign (v := .int .u64 (IntKind.u64.wrap (a0 * a1))) rfl rfl ?_
  refine k_end ?_; intro e25 qe25
  have s4_e25 : e25 4 = .int .u64 x10 := (congrFun qe25 4).trans s4_e24
  obtain ⟨x11, qx11, h⟩ := lt_e h
  have s5_e25 : e25 5 = .int .u64 x11 := (congrFun qe25 5).trans (congrArg (Value.int .u64) qx11.symm)
  clear qe25
  refine wret rfl ?_
  have hr : r = (x10, x11) := (Option.some.inj h).symm
  show RetP _ _ _ _ _
  rw [hr]
  exact ret_i [.int .u64 x10, .int .u64 x11] (res_tmp s4_e25 (res_tmp s5_e25 res_nil)) ⟨rfl, hp.none⟩
/-! 41 (postilion/field.wide).add -/
theorem field_wide_add_ok (a0 : List Int) (a1 : Int) (a2 : Int) (la0 : a0.length = 2) (w0 : World) (hp : Hp w0 [] w0 [] []) {r : List Int} (h : field_wide_add.f a0 a1 a2 = some r) :
    Calls Try.prog 41 [.agg (ints .u64 a0).toArray, .int .u64 a1, .int .u64 a2].toArray w0 fun x w' => ∃ v, x = .returned v ∧ v = .agg (ints .u64 r).toArray ∧ r.length = 2 ∧ Hp w0 [] w' [] [] := by
  refine calls_in Try.func41 rfl (Nat.le_of_ble_eq_true (by kernel_rfl)) (by kernel_rfl) ?_
  intro e0 qe0
  have s0_e0 : e0 0 = .agg (ints .u64 a0).toArray := congrFun qe0 0
  have s1_e0 : e0 1 = .int .u64 a1 := congrFun qe0 1
  have s2_e0 : e0 2 = .int .u64 a2 := congrFun qe0 2
  clear qe0
  unfold field_wide_add.f at h
  refine wseq rfl ?_
  refine wregion (.ef 0 (.ef 1 (.done))) [] rfl (by kernel_rfl) (by kernel_rfl) ?_
  refine k_box (v := .agg (ints .u64 a0).toArray) (ints .u64 a0) rfl s0_e0 rfl hp ?_
  intro g1 w hbg1 hp
  refine k_alloc (ints .u64 (List.replicate 2 (0 : Int))) rfl (by kernel_rfl) hp ?_
  intro g2 w hbg2 hp
  refine k_end ?_; intro e26 qe26
  have s1_e26 : e26 1 = .int .u64 a1 := (congrFun qe26 1).trans s1_e0
  have s2_e26 : e26 2 = .int .u64 a2 := (congrFun qe26 2).trans s2_e0
  have s3_e26 : e26 3 = .pointer (some ⟨g1, 0, none⟩) := congrFun qe26 3
  have s6_e26 : e26 6 = .pointer (some ⟨g2, 0, none⟩) := congrFun qe26 6
  clear qe26
  refine wseq rfl ?_
  refine wregion (.tp 0 (.tp 1 (.ef 2 (.tp 3 (.tp 4 (.tp 5 (.tp 6 (.tp 7 (.done))))))))) [] rfl (by kernel_rfl) (by kernel_rfl) ?_
  refine k_move (v := .int .u64 a1) rfl s1_e26 ?_
  refine k_move (v := .int .u64 a2) rfl s2_e26 ?_
  obtain ⟨r3, qr3, h⟩ := bd_e h
  refine k_call [.int .u64 a1, .int .u64 a2] rfl (by kernel_rfl) (args2 rfl rfl) (math_bits_Mul64_ok a1 a2  _ (hp.toR (fun _ h => by cases h)) qr3) ?_
  rintro _ w' ⟨_, rfl, rfl, hpc⟩
  refine ⟨_, rfl, .inr (.of_below hpc.chg.to_below), ?_⟩; have hp := hp.below hpc.chg.to_below; clear hpc
  refine k_move (v := .tuple #[.int .u64 r3.1, .int .u64 r3.2]) rfl rfl ?_
  refine k_extract (v := .int .u64 r3.1) rfl rfl rfl ?_
  refine k_extract (v := .int .u64 r3.2) rfl rfl rfl ?_
  refine k_assign (v := .int .u64 r3.1) rfl rfl ?_
  refine k_assign (v := .int .u64 r3.2) rfl rfl ?_
  refine k_end ?_; intro e27 qe27
  have s3_e27 : e27 3 = .pointer (some ⟨g1, 0, none⟩) := (congrFun qe27 3).trans s3_e26
  have s6_e27 : e27 6 = .pointer (some ⟨g2, 0, none⟩) := (congrFun qe27 6).trans s6_e26
  obtain ⟨x4, qx4, h⟩ := lt_e h
  have s7_e27 : e27 7 = .int .u64 x4 := (congrFun qe27 7).trans (congrArg (Value.int .u64) qx4.symm)
  obtain ⟨x5, qx5, h⟩ := lt_e h
  have s8_e27 : e27 8 = .int .u64 x5 := (congrFun qe27 8).trans (congrArg (Value.int .u64) qx5.symm)
  clear qe27
  refine wseq rfl ?_
  refine wregion (.tp 0 (.tp 1 (.tk 2 (.tp 3 (.tp 4 (.tp 5 (.tp 6 (.tp 7 (.tp 8 (.done)))))))))) [] rfl (by kernel_rfl) (by kernel_rfl) ?_
  refine k_move (v := .int .u64 x5) rfl s8_e27 ?_
  refine k_fieldAddr (n := 1) rfl (by kernel_rfl) s3_e27 ?_
  refine k_load (j := 1) (v := .int .u64 (a0.getD 1 0)) rfl (by kernel_rfl) rfl (hp.get (j := 0) rfl) rfl rfl (ints_get (Nat.lt_of_lt_of_eq (m := 2) (by decide) (la0).symm)) ?_
  obtain ⟨c6, h⟩ := chk_e h
  refine k_ext [.int .u64 x5, .int .u64 (a0.getD 1 0), .int .u64 0] rfl ext54 (args3 rfl rfl rfl) (fun w' => run_add64 x5 (a0.getD 1 0) 0 c6.1 c6.2.1 c6.2.2.1 c6.2.2.2 w') ?_
  refine k_move (v := .tuple #[.int .u64 ((x5 + (a0.getD 1 0) + 0) % 18446744073709551616), .int .u64 ((x5 + (a0.getD 1 0) + 0) / 18446744073709551616)]) rfl rfl ?_
  refine k_extract (v := .int .u64 ((x5 + (a0.getD 1 0) + 0) % 18446744073709551616)) rfl rfl rfl ?_
  refine k_extract (v := .int .u64 ((x5 + (a0.getD 1 0) + 0) / 18446744073709551616)) rfl rfl rfl ?_
  refine k_assign (v := .int .u64 ((x5 + (a0.getD 1 0) + 0) % 18446744073709551616)) rfl rfl ?_
  refine k_assign (v := .int .u64 ((x5 + (a0.getD 1 0) + 0) / 18446744073709551616)) rfl rfl ?_
  refine k_end ?_; intro e28 qe28
  have s3_e28 : e28 3 = .pointer (some ⟨g1, 0, none⟩) := (congrFun qe28 3).trans s3_e27
  have s6_e28 : e28 6 = .pointer (some ⟨g2, 0, none⟩) := (congrFun qe28 6).trans s6_e27
  have s7_e28 : e28 7 = .int .u64 x4 := (congrFun qe28 7).trans s7_e27
  obtain ⟨x7, qx7, h⟩ := lt_e h
  have s8_e28 : e28 8 = .int .u64 x7 := (congrFun qe28 8).trans (congrArg (Value.int .u64) qx7.symm)
  obtain ⟨x8, qx8, h⟩ := lt_e h
  have s9_e28 : e28 9 = .int .u64 x8 := (congrFun qe28 9).trans (congrArg (Value.int .u64) qx8.symm)
  clear qe28
  refine wseq rfl ?_
  refine wregion (.tp 0 (.tk 1 (.tp 2 (.tp 3 (.tp 4 (.tp 5 (.tp 6 (.tp 7 (.ef 8 (.done)))))))))) [8] rfl (by kernel_rfl) (by kernel_rfl) ?_
  refine k_fieldAddr (n := 0) rfl (by kernel_rfl) s3_e28 ?_
  refine k_load (j := 0) (v := .int .u64 (a0.getD 0 0)) rfl (by kernel_rfl) rfl (hp.get (j := 0) rfl) rfl rfl (ints_get (Nat.lt_of_lt_of_eq (m := 2) (by decide) (la0).symm)) ?_
  refine k_move (v := .int .u64 x4) rfl s7_e28 ?_
  refine k_bin (X := .int .u64 (a0.getD 0 0)) (Y := .int .u64 x4) rfl rfl rfl rfl ?_
  refine k_move (v := .int .u64 x8) rfl s9_e28 ?_
  refine k_bin (X := .int .u64 (IntKind.u64.wrap ((a0.getD 0 0) + x4))) (Y := .int .u64 x8) rfl rfl rfl rfl ?_
  refine k_move (v := .int .u64 x7) rfl s8_e28 ?_
  refine k_build (v := .agg (ints .u64 [(IntKind.u64.wrap ((IntKind.u64.wrap ((a0.getD 0 0) + x4)) + x8)), x7]).toArray) rfl (fun _ => by kernel_rfl) ?_
  refine k_storeA (v := .agg (ints .u64 [(IntKind.u64.wrap ((IntKind.u64.wrap ((a0.getD 0 0) + x4)) + x8)), x7]).toArray) 1 0 (r := ⟨g2, 0, ints .u64 (List.replicate 2 (0 : Int))⟩) (ints .u64 [(IntKind.u64.wrap ((IntKind.u64.wrap ((a0.getD 0 0) + x4)) + x8)), x7]) (ints .u64 [(IntKind.u64.wrap ((IntKind.u64.wrap ((a0.getD 0 0) + x4)) + x8)), x7]) rfl (n := 2) (by kernel_rfl) s6_e28 rfl rfl ((ints_length _ _).trans (rfl : List.length ([(IntKind.u64.wrap ((IntKind.u64.wrap ((a0.getD 0 0) + x4)) + x8)), x7] : List Int) = 2)) (ints_one _ _) hp rfl rfl rfl (Nat.le_of_eq ((Nat.zero_add _).trans ((ints_length _ _).trans List.length_replicate).symm)) (setMany_all _ _ (((ints_length _ _).trans (rfl : List.length ([(IntKind.u64.wrap ((IntKind.u64.wrap ((a0.getD 0 0) + x4)) + x8)), x7] : List Int) = 2)).trans ((ints_length _ _).trans List.length_replicate).symm)) (by decide) ?_; intro w hp
  refine k_end ?_; intro e29 qe29
  have s6_e29 : e29 6 = .pointer (some ⟨g2, 0, none⟩) := (congrFun qe29 6).trans s6_e28
  clear qe29
  refine wret rfl ?_
  have hr : r = [(IntKind.u64.wrap ((IntKind.u64.wrap ((a0.getD 0 0) + x4)) + x8)), x7] := (Option.some.inj h).symm
  show RetP _ _ _ _ _
  rw [hr]
  exact ret_i [.agg (ints .u64 [(IntKind.u64.wrap ((IntKind.u64.wrap ((a0.getD 0 0) + x4)) + x8)), x7]).toArray] (res_cell s6_e29 (loadVar_agg (by kernel_rfl) (by kernel_rfl) ((ints_length _ _).trans (rfl : List.length ([(IntKind.u64.wrap ((IntKind.u64.wrap ((a0.getD 0 0) + x4)) + x8)), x7] : List Int) = 2)) (hp.get (j := 1) rfl) rfl rfl rfl) res_nil) ⟨rfl, (rfl : List.length ([(IntKind.u64.wrap ((IntKind.u64.wrap ((a0.getD 0 0) + x4)) + x8)), x7] : List Int) = 2), hp.none⟩
/-! 42 (postilion/field.wide).shifted -/
theorem field_wide_shifted_ok (a0 : List Int) (la0 : a0.length = 2) (w0 : World) (hp : Hp w0 [] w0 [] []) {r : Int} (h : field_wide_shifted.f a0 = some r) :
    Calls Try.prog 42 [.agg (ints .u64 a0).toArray].toArray w0 fun x w' => ∃ v, x = .returned v ∧ v = .int .u64 r ∧ Hp w0 [] w' [] [] := by
  refine calls_in Try.func42 rfl (Nat.le_of_ble_eq_true (by kernel_rfl)) (by kernel_rfl) ?_
  intro e0 qe0
  have s0_e0 : e0 0 = .agg (ints .u64 a0).toArray := congrFun qe0 0
  clear qe0
  unfold field_wide_shifted.f at h
  refine wseq rfl ?_
  refine wregion (.ef 0 (.tp 1 (.done))) [] rfl (by kernel_rfl) (by kernel_rfl) ?_
  refine k_box (v := .agg (ints .u64 a0).toArray) (ints .u64 a0) rfl s0_e0 rfl hp ?_
  intro g1 w hbg1 hp
  refine k_assign (v := .int .u64 0) rfl rfl ?_
  refine k_end ?_; intro e30 qe30
  have s1_e30 : e30 1 = .pointer (some ⟨g1, 0, none⟩) := congrFun qe30 1
  clear qe30
  refine wseq rfl ?_
  refine wregion (.tp 0 (.tk 1 (.tp 2 (.tp 3 (.tk 4 (.tp 5 (.tp 6 (.tp 7 (.done))))))))) [] rfl (by kernel_rfl) (by kernel_rfl) ?_
  refine k_fieldAddr (n := 0) rfl (by kernel_rfl) s1_e30 ?_
  refine k_load (j := 0) (v := .int .u64 (a0.getD 0 0)) rfl (by kernel_rfl) rfl (hp.get (j := 0) rfl) rfl rfl (ints_get (Nat.lt_of_lt_of_eq (m := 2) (by decide) (la0).symm)) ?_
  refine k_shl (a := (a0.getD 0 0)) (b := 13) rfl rfl rfl (by decide) ?_
  refine k_fieldAddr (n := 1) rfl (by kernel_rfl) s1_e30 ?_
  refine k_load (j := 1) (v := .int .u64 (a0.getD 1 0)) rfl (by kernel_rfl) rfl (hp.get (j := 0) rfl) rfl rfl (ints_get (Nat.lt_of_lt_of_eq (m := 2) (by decide) (la0).symm)) ?_
  refine k_shr (a := (a0.getD 1 0)) (b := 51) rfl rfl rfl (by decide) ?_
  refine k_bin (X := .int .u64 (IntKind.u64.wrap ((a0.getD 0 0) * 2 ^ 13))) (Y := .int .u64 (Int.fdiv (a0.getD 1 0) (2 ^ 51))) rfl rfl rfl rfl ?_
  refine k_assign (v := .int .u64 (bits .or .u64 (IntKind.u64.wrap ((a0.getD 0 0) * 2 ^ 13)) (Int.fdiv (a0.getD 1 0) (2 ^ 51)))) rfl rfl ?_
  refine k_end ?_; intro e31 qe31
  obtain ⟨x2, qx2, h⟩ := lt_e h
  have s2_e31 : e31 2 = .int .u64 x2 := (congrFun qe31 2).trans (congrArg (Value.int .u64) qx2.symm)
  clear qe31
  refine wret rfl ?_
  have hr : r = x2 := (Option.some.inj h).symm
  show RetP _ _ _ _ _
  rw [hr]
  exact ret_i [.int .u64 x2] (res_tmp s2_e31 res_nil) ⟨rfl, hp.none⟩
/-! 40 (postilion/field.Element).carried -/
theorem field_Element_carried_ok (a0 : List Int) (la0 : a0.length = 5) (w0 : World) (hp : Hp w0 [] w0 [] []) {r : List Int} (h : field_Element_carried.f a0 = some r) :
    Calls Try.prog 40 [.agg (ints .u64 a0).toArray].toArray w0 fun x w' => ∃ v, x = .returned v ∧ v = .agg (ints .u64 r).toArray ∧ r.length = 5 ∧ Hp w0 [] w' [] [] := by
  refine calls_in Try.func40 rfl (Nat.le_of_ble_eq_true (by kernel_rfl)) (by kernel_rfl) ?_
  intro e0 qe0
  have s0_e0 : e0 0 = .agg (ints .u64 a0).toArray := congrFun qe0 0
  clear qe0
  unfold field_Element_carried.f at h
  refine wseq rfl ?_
  refine wregion (.ef 0 (.ef 1 (.done))) [] rfl (by kernel_rfl) (by kernel_rfl) ?_
  refine k_box (v := .agg (ints .u64 a0).toArray) (ints .u64 a0) rfl s0_e0 rfl hp ?_
  intro g1 w hbg1 hp
  refine k_alloc (ints .u64 (List.replicate 5 (0 : Int))) rfl (by kernel_rfl) hp ?_
  intro g2 w hbg2 hp
  refine k_end ?_; intro e32 qe32
  have s1_e32 : e32 1 = .pointer (some ⟨g1, 0, none⟩) := congrFun qe32 1
  have s2_e32 : e32 2 = .pointer (some ⟨g2, 0, none⟩) := congrFun qe32 2
  clear qe32
  refine wseq rfl ?_
  refine wregion (.tp 0 (.tk 1 (.tp 2 (.tp 3 (.tk 4 (.tp 5 (.tp 6 (.tk 7 (.tp 8 (.tp 9 (.tk 10 (.tp 11 (.tp 12 (.tk 13 (.tp 14 (.tp 15 (.ef 16 (.ef 17 (.done))))))))))))))))))) [17] rfl (by kernel_rfl) (by kernel_rfl) ?_
  refine k_indexA (n := 5) (s := 1) (j := 0) rfl Try.underlying34 (by kernel_rfl) s1_e32 rfl (by decide) ?_
  refine k_load (j := 0) (v := .int .u64 (a0.getD 0 0)) rfl (by kernel_rfl) rfl (hp.get (j := 0) rfl) rfl rfl (ints_get (Nat.lt_of_lt_of_eq (m := 5) (by decide) (la0).symm)) ?_
  refine k_shr (a := (a0.getD 0 0)) (b := 51) rfl rfl rfl (by decide) ?_
  refine k_indexA (n := 5) (s := 1) (j := 1) rfl Try.underlying34 (by kernel_rfl) s1_e32 rfl (by decide) ?_
  refine k_load (j := 1) (v := .int .u64 (a0.getD 1 0)) rfl (by kernel_rfl) rfl (hp.get (j := 0) rfl) rfl rfl (ints_get (Nat.lt_of_lt_of_eq (m := 5) (by decide) (la0).symm)) ?_
  refine k_shr (a := (a0.getD 1 0)) (b := 51) rfl rfl rfl (by decide) ?_
  refine k_indexA (n := 5) (s := 1) (j := 2) rfl Try.underlying34 (by kernel_rfl) s1_e32 rfl (by decide) ?_
  refine k_load (j := 2) (v := .int .u64 (a0.getD 2 0)) rfl (by kernel_rfl) rfl (hp.get (j := 0) rfl) rfl rfl (ints_get (Nat.lt_of_lt_of_eq (m := 5) (by decide) (la0).symm)) ?_
  refine k_shr (a := (a0.getD 2 0)) (b := 51) rfl rfl rfl (by decide) ?_
  refine k_indexA (n := 5) (s := 1) (j := 3) rfl Try.underlying34 (by kernel_rfl) s1_e32 rfl (by decide) ?_
  refine k_load (j := 3) (v := .int .u64 (a0.getD 3 0)) rfl (by kernel_rfl) rfl (hp.get (j := 0) rfl) rfl rfl (ints_get (Nat.lt_of_lt_of_eq (m := 5) (by decide) (la0).symm)) ?_
  refine k_shr (a := (a0.getD 3 0)) (b := 51) rfl rfl rfl (by decide) ?_
  refine k_indexA (n := 5) (s := 1) (j := 4) rfl Try.underlying34 (by kernel_rfl) s1_e32 rfl (by decide) ?_
  refine k_load (j := 4) (v := .int .u64 (a0.getD 4 0)) rfl (by kernel_rfl) rfl (hp.get (j := 0) rfl) rfl rfl (ints_get (Nat.lt_of_lt_of_eq (m := 5) (by decide) (la0).symm)) ?_
  refine k_shr (a := (a0.getD 4 0)) (b := 51) rfl rfl rfl (by decide) ?_
  refine k_build (v := .agg (ints .u64 [(Int.fdiv (a0.getD 0 0) (2 ^ 51)), (Int.fdiv (a0.getD 1 0) (2 ^ 51)), (Int.fdiv (a0.getD 2 0) (2 ^ 51)), (Int.fdiv (a0.getD 3 0) (2 ^ 51)), (Int.fdiv (a0.getD 4 0) (2 ^ 51))]).toArray) rfl (fun _ => by kernel_rfl) ?_
  refine k_alloc (ints .u64 (List.replicate 5 (0 : Int))) rfl (by kernel_rfl) hp ?_
  intro g3 w hbg3 hp
  refine k_storeA (v := .agg (ints .u64 [(Int.fdiv (a0.getD 0 0) (2 ^ 51)), (Int.fdiv (a0.getD 1 0) (2 ^ 51)), (Int.fdiv (a0.getD 2 0) (2 ^ 51)), (Int.fdiv (a0.getD 3 0) (2 ^ 51)), (Int.fdiv (a0.getD 4 0) (2 ^ 51))]).toArray) 2 0 (r := ⟨g3, 0, ints .u64 (List.replicate 5 (0 : Int))⟩) (ints .u64 [(Int.fdiv (a0.getD 0 0) (2 ^ 51)), (Int.fdiv (a0.getD 1 0) (2 ^ 51)), (Int.fdiv (a0.getD 2 0) (2 ^ 51)), (Int.fdiv (a0.getD 3 0) (2 ^ 51)), (Int.fdiv (a0.getD 4 0) (2 ^ 51))]) (ints .u64 [(Int.fdiv (a0.getD 0 0) (2 ^ 51)), (Int.fdiv (a0.getD 1 0) (2 ^ 51)), (Int.fdiv (a0.getD 2 0) (2 ^ 51)), (Int.fdiv (a0.getD 3 0) (2 ^ 51)), (Int.fdiv (a0.getD 4 0) (2 ^ 51))]) rfl (n := 5) (by kernel_rfl) rfl rfl rfl ((ints_length _ _).trans (rfl : List.length ([(Int.fdiv (a0.getD 0 0) (2 ^ 51)), (Int.fdiv (a0.getD 1 0) (2 ^ 51)), (Int.fdiv (a0.getD 2 0) (2 ^ 51)), (Int.fdiv (a0.getD 3 0) (2 ^ 51)), (Int.fdiv (a0.getD 4 0) (2 ^ 51))] : List Int) = 5)) (ints_one _ _) hp rfl rfl rfl (Nat.le_of_eq ((Nat.zero_add _).trans ((ints_length _ _).trans List.length_replicate).symm)) (setMany_all _ _ (((ints_length _ _).trans (rfl : List.length ([(Int.fdiv (a0.getD 0 0) (2 ^ 51)), (Int.fdiv (a0.getD 1 0) (2 ^ 51)), (Int.fdiv (a0.getD 2 0) (2 ^ 51)), (Int.fdiv (a0.getD 3 0) (2 ^ 51)), (Int.fdiv (a0.getD 4 0) (2 ^ 51))] : List Int) = 5)).trans ((ints_length _ _).trans List.length_replicate).symm)) (by decide) ?_; intro w hp
  refine k_end ?_; intro e33 qe33
  have s1_e33 : e33 1 = .pointer (some ⟨g1, 0, none⟩) := (congrFun qe33 1).trans s1_e32
  have s2_e33 : e33 2 = .pointer (some ⟨g2, 0, none⟩) := (congrFun qe33 2).trans s2_e32
  have s3_e33 : e33 3 = .pointer (some ⟨g3, 0, none⟩) := congrFun qe33 3
  clear qe33
  refine wseq rfl ?_
  refine wregion (.tp 0 (.tk 1 (.tp 2 (.tp 3 (.tk 4 (.tp 5 (.tp 6 (.tp 7 (.tk 8 (.tp 9 (.tp 10 (.tk 11 (.tp 12 (.tp 13 (.tk 14 (.tp 15 (.tp 16 (.tk 17 (.tp 18 (.tp 19 (.tk 20 (.tp 21 (.tp 22 (.tk 23 (.tp 24 (.tp 25 (.tk 26 (.tp 27 (.tp 28 (.tk 29 (.tp 30 (.tp 31 (.ef 32 (.done)))))))))))))))))))))))))))))))))) [32] rfl (by kernel_rfl) (by kernel_rfl) ?_
  refine k_indexA (n := 5) (s := 1) (j := 0) rfl Try.underlying34 (by kernel_rfl) s1_e33 rfl (by decide) ?_
  refine k_load (j := 0) (v := .int .u64 (a0.getD 0 0)) rfl (by kernel_rfl) rfl (hp.get (j := 0) rfl) rfl rfl (ints_get (Nat.lt_of_lt_of_eq (m := 5) (by decide) (la0).symm)) ?_
  refine k_bin (X := .int .u64 (a0.getD 0 0)) (Y := .int .u64 2251799813685247) rfl rfl rfl rfl ?_
  refine k_indexA (n := 5) (s := 1) (j := 4) rfl Try.underlying33 (by kernel_rfl) s3_e33 rfl (by decide) ?_
  refine k_load (j := 4) (v := .int .u64 ([(Int.fdiv (a0.getD 0 0) (2 ^ 51)), (Int.fdiv (a0.getD 1 0) (2 ^ 51)), (Int.fdiv (a0.getD 2 0) (2 ^ 51)), (Int.fdiv (a0.getD 3 0) (2 ^ 51)), (Int.fdiv (a0.getD 4 0) (2 ^ 51))].getD 4 0)) rfl (by kernel_rfl) rfl (hp.get (j := 2) rfl) rfl rfl (ints_get (Nat.lt_of_lt_of_eq (m := 5) (by decide) (rfl : List.length ([(Int.fdiv (a0.getD 0 0) (2 ^ 51)), (Int.fdiv (a0.getD 1 0) (2 ^ 51)), (Int.fdiv (a0.getD 2 0) (2 ^ 51)), (Int.fdiv (a0.getD 3 0) (2 ^ 51)), (Int.fdiv (a0.getD 4 0) (2 ^ 51))] : List Int) = 5).symm)) ?_
  refine k_bin (X := .int .u64 19) (Y := .int .u64 ([(Int.fdiv (a0.getD 0 0) (2 ^ 51)), (Int.fdiv (a0.getD 1 0) (2 ^ 51)), (Int.fdiv (a0.getD 2 0) (2 ^ 51)), (Int.fdiv (a0.getD 3 0) (2 ^ 51)), (Int.fdiv (a0.getD 4 0) (2 ^ 51))].getD 4 0)) rfl rfl rfl rfl ?_
  refine k_bin (X := .int .u64 (bits .and .u64 (a0.getD 0 0) 2251799813685247)) (Y := .int .u64 (IntKind.u64.wrap (19 * ([(Int.fdiv (a0.getD 0 0) (2 ^ 51)), (Int.fdiv (a0.getD 1 0) (2 ^ 51)), (Int.fdiv (a0.getD 2 0) (2 ^ 51)), (Int.fdiv (a0.getD 3 0) (2 ^ 51)), (Int.fdiv (a0.getD 4 0) (2 ^ 51))].getD 4 0)))) rfl rfl rfl rfl ?_
  refine k_indexA (n := 5) (s := 1) (j := 1) rfl Try.underlying34 (by kernel_rfl) s1_e33 rfl (by decide) ?_
  refine k_load (j := 1) (v := .int .u64 (a0.getD 1 0)) rfl (by kernel_rfl) rfl (hp.get (j := 0) rfl) rfl rfl (ints_get (Nat.lt_of_lt_of_eq (m := 5) (by decide) (la0).symm)) ?_
  refine k_bin (X := .int .u64 (a0.getD 1 0)) (Y := .int .u64 2251799813685247) rfl rfl rfl rfl ?_
  refine k_indexA (n := 5) (s := 1) (j := 0) rfl Try.underlying33 (by kernel_rfl) s3_e33 rfl (by decide) ?_
  refine k_load (j := 0) (v := .int .u64 ([(Int.fdiv (a0.getD 0 0) (2 ^ 51)), (Int.fdiv (a0.getD 1 0) (2 ^ 51)), (Int.fdiv (a0.getD 2 0) (2 ^ 51)), (Int.fdiv (a0.getD 3 0) (2 ^ 51)), (Int.fdiv (a0.getD 4 0) (2 ^ 51))].getD 0 0)) rfl (by kernel_rfl) rfl (hp.get (j := 2) rfl) rfl rfl (ints_get (Nat.lt_of_lt_of_eq (m := 5) (by decide) (rfl : List.length ([(Int.fdiv (a0.getD 0 0) (2 ^ 51)), (Int.fdiv (a0.getD 1 0) (2 ^ 51)), (Int.fdiv (a0.getD 2 0) (2 ^ 51)), (Int.fdiv (a0.getD 3 0) (2 ^ 51)), (Int.fdiv (a0.getD 4 0) (2 ^ 51))] : List Int) = 5).symm)) ?_
  refine k_bin (X := .int .u64 (bits .and .u64 (a0.getD 1 0) 2251799813685247)) (Y := .int .u64 ([(Int.fdiv (a0.getD 0 0) (2 ^ 51)), (Int.fdiv (a0.getD 1 0) (2 ^ 51)), (Int.fdiv (a0.getD 2 0) (2 ^ 51)), (Int.fdiv (a0.getD 3 0) (2 ^ 51)), (Int.fdiv (a0.getD 4 0) (2 ^ 51))].getD 0 0)) rfl rfl rfl rfl ?_
  refine k_indexA (n := 5) (s := 1) (j := 2) rfl Try.underlying34 (by kernel_rfl) s1_e33 rfl (by decide) ?_
  refine k_load (j := 2) (v := .int .u64 (a0.getD 2 0)) rfl (by kernel_rfl) rfl (hp.get (j := 0) rfl) rfl rfl (ints_get (Nat.lt_of_lt_of_eq (m := 5) (by decide) (la0).symm)) ?_
  refine k_bin (X := .int .u64 (a0.getD 2 0)) (Y := .int .u64 2251799813685247) rfl rfl rfl rfl ?_
  refine k_indexA (n := 5) (s := 1) (j := 1) rfl Try.underlying33 (by kernel_rfl) s3_e33 rfl (by decide) ?_
  refine k_load (j := 1) (v := .int .u64 ([(Int.fdiv (a0.getD 0 0) (2 ^ 51)), (Int.fdiv (a0.getD 1 0) (2 ^ 51)), (Int.fdiv (a0.getD 2 0) (2 ^ 51)), (Int.fdiv (a0.getD 3 0) (2 ^ 51)), (Int.fdiv (a0.getD 4 0) (2 ^ 51))].getD 1 0)) rfl (by kernel_rfl) rfl (hp.get (j := 2) rfl) rfl rfl (ints_get (Nat.lt_of_lt_of_eq (m := 5) (by decide) (rfl : List.length ([(Int.fdiv (a0.getD 0 0) (2 ^ 51)), (Int.fdiv (a0.getD 1 0) (2 ^ 51)), (Int.fdiv (a0.getD 2 0) (2 ^ 51)), (Int.fdiv (a0.getD 3 0) (2 ^ 51)), (Int.fdiv (a0.getD 4 0) (2 ^ 51))] : List Int) = 5).symm)) ?_
  refine k_bin (X := .int .u64 (bits .and .u64 (a0.getD 2 0) 2251799813685247)) (Y := .int .u64 ([(Int.fdiv (a0.getD 0 0) (2 ^ 51)), (Int.fdiv (a0.getD 1 0) (2 ^ 51)), (Int.fdiv (a0.getD 2 0) (2 ^ 51)), (Int.fdiv (a0.getD 3 0) (2 ^ 51)), (Int.fdiv (a0.getD 4 0) (2 ^ 51))].getD 1 0)) rfl rfl rfl rfl ?_
  refine k_indexA (n := 5) (s := 1) (j := 3) rfl Try.underlying34 (by kernel_rfl) s1_e33 rfl (by decide) ?_
  refine k_load (j := 3) (v := .int .u64 (a0.getD 3 0)) rfl (by kernel_rfl) rfl (hp.get (j := 0) rfl) rfl rfl (ints_get (Nat.lt_of_lt_of_eq (m := 5) (by decide) (la0).symm)) ?_
  refine k_bin (X := .int .u64 (a0.getD 3 0)) (Y := .int .u64 2251799813685247) rfl rfl rfl rfl ?_
  refine k_indexA (n := 5) (s := 1) (j := 2) rfl Try.underlying33 (by kernel_rfl) s3_e33 rfl (by decide) ?_
  refine k_load (j := 2) (v := .int .u64 ([(Int.fdiv (a0.getD 0 0) (2 ^ 51)), (Int.fdiv (a0.getD 1 0) (2 ^ 51)), (Int.fdiv (a0.getD 2 0) (2 ^ 51)), (Int.fdiv (a0.getD 3 0) (2 ^ 51)), (Int.fdiv (a0.getD 4 0) (2 ^ 51))].getD 2 0)) rfl (by kernel_rfl) rfl (hp.get (j := 2) rfl) rfl rfl (ints_get (Nat.lt_of_lt_of_eq (m := 5) (by decide) (rfl : List.length ([(Int.fdiv (a0.getD 0 0) (2 ^ 51)), (Int.fdiv (a0.getD 1 0) (2 ^ 51)), (Int.fdiv (a0.getD 2 0) (2 ^ 51)), (Int.fdiv (a0.getD 3 0) (2 ^ 51)), (Int.fdiv (a0.getD 4 0) (2 ^ 51))] : List Int) = 5).symm)) ?_
  refine k_bin (X := .int .u64 (bits .and .u64 (a0.getD 3 0) 2251799813685247)) (Y := .int .u64 ([(Int.fdiv (a0.getD 0 0) (2 ^ 51)), (Int.fdiv (a0.getD 1 0) (2 ^ 51)), (Int.fdiv (a0.getD 2 0) (2 ^ 51)), (Int.fdiv (a0.getD 3 0) (2 ^ 51)), (Int.fdiv (a0.getD 4 0) (2 ^ 51))].getD 2 0)) rfl rfl rfl rfl ?_
  refine k_indexA (n := 5) (s := 1) (j := 4) rfl Try.underlying34 (by kernel_rfl) s1_e33 rfl (by decide) ?_
  refine k_load (j := 4) (v := .int .u64 (a0.getD 4 0)) rfl (by kernel_rfl) rfl (hp.get (j := 0) rfl) rfl rfl (ints_get (Nat.lt_of_lt_of_eq (m := 5) (by decide) (la0).symm)) ?_
  refine k_bin (X := .int .u64 (a0.getD 4 0)) (Y := .int .u64 2251799813685247) rfl rfl rfl rfl ?_
  refine k_indexA (n := 5) (s := 1) (j := 3) rfl Try.underlying33 (by kernel_rfl) s3_e33 rfl (by decide) ?_
  refine k_load (j := 3) (v := .int .u64 ([(Int.fdiv (a0.getD 0 0) (2 ^ 51)), (Int.fdiv (a0.getD 1 0) (2 ^ 51)), (Int.fdiv (a0.getD 2 0) (2 ^ 51)), (Int.fdiv (a0.getD 3 0) (2 ^ 51)), (Int.fdiv (a0.getD 4 0) (2 ^ 51))].getD 3 0)) rfl (by kernel_rfl) rfl (hp.get (j := 2) rfl) rfl rfl (ints_get (Nat.lt_of_lt_of_eq (m := 5) (by decide) (rfl : List.length ([(Int.fdiv (a0.getD 0 0) (2 ^ 51)), (Int.fdiv (a0.getD 1 0) (2 ^ 51)), (Int.fdiv (a0.getD 2 0) (2 ^ 51)), (Int.fdiv (a0.getD 3 0) (2 ^ 51)), (Int.fdiv (a0.getD 4 0) (2 ^ 51))] : List Int) = 5).symm)) ?_
  refine k_bin (X := .int .u64 (bits .and .u64 (a0.getD 4 0) 2251799813685247)) (Y := .int .u64 ([(Int.fdiv (a0.getD 0 0) (2 ^ 51)), (Int.fdiv (a0.getD 1 0) (2 ^ 51)), (Int.fdiv (a0.getD 2 0) (2 ^ 51)), (Int.fdiv (a0.getD 3 0) (2 ^ 51)), (Int.fdiv (a0.getD 4 0) (2 ^ 51))].getD 3 0)) rfl rfl rfl rfl ?_
  refine k_build (v := .agg (ints .u64 [(IntKind.u64.wrap ((bits .and .u64 (a0.getD 0 0) 2251799813685247) + (IntKind.u64.wrap (19 * ([(Int.fdiv (a0.getD 0 0) (2 ^ 51)), (Int.fdiv (a0.getD 1 0) (2 ^ 51)), (Int.fdiv (a0.getD 2 0) (2 ^ 51)), (Int.fdiv (a0.getD 3 0) (2 ^ 51)), (Int.fdiv (a0.getD 4 0) (2 ^ 51))].getD 4 0))))), (IntKind.u64.wrap ((bits .and .u64 (a0.getD 1 0) 2251799813685247) + ([(Int.fdiv (a0.getD 0 0) (2 ^ 51)), (Int.fdiv (a0.getD 1 0) (2 ^ 51)), (Int.fdiv (a0.getD 2 0) (2 ^ 51)), (Int.fdiv (a0.getD 3 0) (2 ^ 51)), (Int.fdiv (a0.getD 4 0) (2 ^ 51))].getD 0 0))), (IntKind.u64.wrap ((bits .and .u64 (a0.getD 2 0) 2251799813685247) + ([(Int.fdiv (a0.getD 0 0) (2 ^ 51)), (Int.fdiv (a0.getD 1 0) (2 ^ 51)), (Int.fdiv (a0.getD 2 0) (2 ^ 51)), (Int.fdiv (a0.getD 3 0) (2 ^ 51)), (Int.fdiv (a0.getD 4 0) (2 ^ 51))].getD 1 0))), (IntKind.u64.wrap ((bits .and .u64 (a0.getD 3 0) 2251799813685247) + ([(Int.fdiv (a0.getD 0 0) (2 ^ 51)), (Int.fdiv (a0.getD 1 0) (2 ^ 51)), (Int.fdiv (a0.getD 2 0) (2 ^ 51)), (Int.fdiv (a0.getD 3 0) (2 ^ 51)), (Int.fdiv (a0.getD 4 0) (2 ^ 51))].getD 2 0))), (IntKind.u64.wrap ((bits .and .u64 (a0.getD 4 0) 2251799813685247) + ([(Int.fdiv (a0.getD 0 0) (2 ^ 51)), (Int.fdiv (a0.getD 1 0) (2 ^ 51)), (Int.fdiv (a0.getD 2 0) (2 ^ 51)), (Int.fdiv (a0.getD 3 0) (2 ^ 51)), (Int.fdiv (a0.getD 4 0) (2 ^ 51))].getD 3 0)))]).toArray) rfl (fun _ => by kernel_rfl) ?_
  refine k_storeA (v := .agg (ints .u64 [(IntKind.u64.wrap ((bits .and .u64 (a0.getD 0 0) 2251799813685247) + (IntKind.u64.wrap (19 * ([(Int.fdiv (a0.getD 0 0) (2 ^ 51)), (Int.fdiv (a0.getD 1 0) (2 ^ 51)), (Int.fdiv (a0.getD 2 0) (2 ^ 51)), (Int.fdiv (a0.getD 3 0) (2 ^ 51)), (Int.fdiv (a0.getD 4 0) (2 ^ 51))].getD 4 0))))), (IntKind.u64.wrap ((bits .and .u64 (a0.getD 1 0) 2251799813685247) + ([(Int.fdiv (a0.getD 0 0) (2 ^ 51)), (Int.fdiv (a0.getD 1 0) (2 ^ 51)), (Int.fdiv (a0.getD 2 0) (2 ^ 51)), (Int.fdiv (a0.getD 3 0) (2 ^ 51)), (Int.fdiv (a0.getD 4 0) (2 ^ 51))].getD 0 0))), (IntKind.u64.wrap ((bits .and .u64 (a0.getD 2 0) 2251799813685247) + ([(Int.fdiv (a0.getD 0 0) (2 ^ 51)), (Int.fdiv (a0.getD 1 0) (2 ^ 51)), (Int.fdiv (a0.getD 2 0) (2 ^ 51)), (Int.fdiv (a0.getD 3 0) (2 ^ 51)), (Int.fdiv (a0.getD 4 0) (2 ^ 51))].getD 1 0))), (IntKind.u64.wrap ((bits .and .u64 (a0.getD 3 0) 2251799813685247) + ([(Int.fdiv (a0.getD 0 0) (2 ^ 51)), (Int.fdiv (a0.getD 1 0) (2 ^ 51)), (Int.fdiv (a0.getD 2 0) (2 ^ 51)), (Int.fdiv (a0.getD 3 0) (2 ^ 51)), (Int.fdiv (a0.getD 4 0) (2 ^ 51))].getD 2 0))), (IntKind.u64.wrap ((bits .and .u64 (a0.getD 4 0) 2251799813685247) + ([(Int.fdiv (a0.getD 0 0) (2 ^ 51)), (Int.fdiv (a0.getD 1 0) (2 ^ 51)), (Int.fdiv (a0.getD 2 0) (2 ^ 51)), (Int.fdiv (a0.getD 3 0) (2 ^ 51)), (Int.fdiv (a0.getD 4 0) (2 ^ 51))].getD 3 0)))]).toArray) 1 0 (r := ⟨g2, 0, ints .u64 (List.replicate 5 (0 : Int))⟩) (ints .u64 [(IntKind.u64.wrap ((bits .and .u64 (a0.getD 0 0) 2251799813685247) + (IntKind.u64.wrap (19 * ([(Int.fdiv (a0.getD 0 0) (2 ^ 51)), (Int.fdiv (a0.getD 1 0) (2 ^ 51)), (Int.fdiv (a0.getD 2 0) (2 ^ 51)), (Int.fdiv (a0.getD 3 0) (2 ^ 51)), (Int.fdiv (a0.getD 4 0) (2 ^ 51))].getD 4 0))))), (IntKind.u64.wrap ((bits .and .u64 (a0.getD 1 0) 2251799813685247) + ([(Int.fdiv (a0.getD 0 0) (2 ^ 51)), (Int.fdiv (a0.getD 1 0) (2 ^ 51)), (Int.fdiv (a0.getD 2 0) (2 ^ 51)), (Int.fdiv (a0.getD 3 0) (2 ^ 51)), (Int.fdiv (a0.getD 4 0) (2 ^ 51))].getD 0 0))), (IntKind.u64.wrap ((bits .and .u64 (a0.getD 2 0) 2251799813685247) + ([(Int.fdiv (a0.getD 0 0) (2 ^ 51)), (Int.fdiv (a0.getD 1 0) (2 ^ 51)), (Int.fdiv (a0.getD 2 0) (2 ^ 51)), (Int.fdiv (a0.getD 3 0) (2 ^ 51)), (Int.fdiv (a0.getD 4 0) (2 ^ 51))].getD 1 0))), (IntKind.u64.wrap ((bits .and .u64 (a0.getD 3 0) 2251799813685247) + ([(Int.fdiv (a0.getD 0 0) (2 ^ 51)), (Int.fdiv (a0.getD 1 0) (2 ^ 51)), (Int.fdiv (a0.getD 2 0) (2 ^ 51)), (Int.fdiv (a0.getD 3 0) (2 ^ 51)), (Int.fdiv (a0.getD 4 0) (2 ^ 51))].getD 2 0))), (IntKind.u64.wrap ((bits .and .u64 (a0.getD 4 0) 2251799813685247) + ([(Int.fdiv (a0.getD 0 0) (2 ^ 51)), (Int.fdiv (a0.getD 1 0) (2 ^ 51)), (Int.fdiv (a0.getD 2 0) (2 ^ 51)), (Int.fdiv (a0.getD 3 0) (2 ^ 51)), (Int.fdiv (a0.getD 4 0) (2 ^ 51))].getD 3 0)))]) (ints .u64 [(IntKind.u64.wrap ((bits .and .u64 (a0.getD 0 0) 2251799813685247) + (IntKind.u64.wrap (19 * ([(Int.fdiv (a0.getD 0 0) (2 ^ 51)), (Int.fdiv (a0.getD 1 0) (2 ^ 51)), (Int.fdiv (a0.getD 2 0) (2 ^ 51)), (Int.fdiv (a0.getD 3 0) (2 ^ 51)), (Int.fdiv (a0.getD 4 0) (2 ^ 51))].getD 4 0))))), (IntKind.u64.wrap ((bits .and .u64 (a0.getD 1 0) 2251799813685247) + ([(Int.fdiv (a0.getD 0 0) (2 ^ 51)), (Int.fdiv (a0.getD 1 0) (2 ^ 51)), (Int.fdiv (a0.getD 2 0) (2 ^ 51)), (Int.fdiv (a0.getD 3 0) (2 ^ 51)), (Int.fdiv (a0.getD 4 0) (2 ^ 51))].getD 0 0))), (IntKind.u64.wrap ((bits .and .u64 (a0.getD 2 0) 2251799813685247) + ([(Int.fdiv (a0.getD 0 0) (2 ^ 51)), (Int.fdiv (a0.getD 1 0) (2 ^ 51)), (Int.fdiv (a0.getD 2 0) (2 ^ 51)), (Int.fdiv (a0.getD 3 0) (2 ^ 51)), (Int.fdiv (a0.getD 4 0) (2 ^ 51))].getD 1 0))), (IntKind.u64.wrap ((bits .and .u64 (a0.getD 3 0) 2251799813685247) + ([(Int.fdiv (a0.getD 0 0) (2 ^ 51)), (Int.fdiv (a0.getD 1 0) (2 ^ 51)), (Int.fdiv (a0.getD 2 0) (2 ^ 51)), (Int.fdiv (a0.getD 3 0) (2 ^ 51)), (Int.fdiv (a0.getD 4 0) (2 ^ 51))].getD 2 0))), (IntKind.u64.wrap ((bits .and .u64 (a0.getD 4 0) 2251799813685247) + ([(Int.fdiv (a0.getD 0 0) (2 ^ 51)), (Int.fdiv (a0.getD 1 0) (2 ^ 51)), (Int.fdiv (a0.getD 2 0) (2 ^ 51)), (Int.fdiv (a0.getD 3 0) (2 ^ 51)), (Int.fdiv (a0.getD 4 0) (2 ^ 51))].getD 3 0)))]) rfl (n := 5) (by kernel_rfl) s2_e33 rfl rfl ((ints_length _ _).trans (rfl : List.length ([(IntKind.u64.wrap ((bits .and .u64 (a0.getD 0 0) 2251799813685247) + (IntKind.u64.wrap (19 * ([(Int.fdiv (a0.getD 0 0) (2 ^ 51)), (Int.fdiv (a0.getD 1 0) (2 ^ 51)), (Int.fdiv (a0.getD 2 0) (2 ^ 51)), (Int.fdiv (a0.getD 3 0) (2 ^ 51)), (Int.fdiv (a0.getD 4 0) (2 ^ 51))].getD 4 0))))), (IntKind.u64.wrap ((bits .and .u64 (a0.getD 1 0) 2251799813685247) + ([(Int.fdiv (a0.getD 0 0) (2 ^ 51)), (Int.fdiv (a0.getD 1 0) (2 ^ 51)), (Int.fdiv (a0.getD 2 0) (2 ^ 51)), (Int.fdiv (a0.getD 3 0) (2 ^ 51)), (Int.fdiv (a0.getD 4 0) (2 ^ 51))].getD 0 0))), (IntKind.u64.wrap ((bits .and .u64 (a0.getD 2 0) 2251799813685247) + ([(Int.fdiv (a0.getD 0 0) (2 ^ 51)), (Int.fdiv (a0.getD 1 0) (2 ^ 51)), (Int.fdiv (a0.getD 2 0) (2 ^ 51)), (Int.fdiv (a0.getD 3 0) (2 ^ 51)), (Int.fdiv (a0.getD 4 0) (2 ^ 51))].getD 1 0))), (IntKind.u64.wrap ((bits .and .u64 (a0.getD 3 0) 2251799813685247) + ([(Int.fdiv (a0.getD 0 0) (2 ^ 51)), (Int.fdiv (a0.getD 1 0) (2 ^ 51)), (Int.fdiv (a0.getD 2 0) (2 ^ 51)), (Int.fdiv (a0.getD 3 0) (2 ^ 51)), (Int.fdiv (a0.getD 4 0) (2 ^ 51))].getD 2 0))), (IntKind.u64.wrap ((bits .and .u64 (a0.getD 4 0) 2251799813685247) + ([(Int.fdiv (a0.getD 0 0) (2 ^ 51)), (Int.fdiv (a0.getD 1 0) (2 ^ 51)), (Int.fdiv (a0.getD 2 0) (2 ^ 51)), (Int.fdiv (a0.getD 3 0) (2 ^ 51)), (Int.fdiv (a0.getD 4 0) (2 ^ 51))].getD 3 0)))] : List Int) = 5)) (ints_one _ _) hp rfl rfl rfl (Nat.le_of_eq ((Nat.zero_add _).trans ((ints_length _ _).trans List.length_replicate).symm)) (setMany_all _ _ (((ints_length _ _).trans (rfl : List.length ([(IntKind.u64.wrap ((bits .and .u64 (a0.getD 0 0) 2251799813685247) + (IntKind.u64.wrap (19 * ([(Int.fdiv (a0.getD 0 0) (2 ^ 51)), (Int.fdiv (a0.getD 1 0) (2 ^ 51)), (Int.fdiv (a0.getD 2 0) (2 ^ 51)), (Int.fdiv (a0.getD 3 0) (2 ^ 51)), (Int.fdiv (a0.getD 4 0) (2 ^ 51))].getD 4 0))))), (IntKind.u64.wrap ((bits .and .u64 (a0.getD 1 0) 2251799813685247) + ([(Int.fdiv (a0.getD 0 0) (2 ^ 51)), (Int.fdiv (a0.getD 1 0) (2 ^ 51)), (Int.fdiv (a0.getD 2 0) (2 ^ 51)), (Int.fdiv (a0.getD 3 0) (2 ^ 51)), (Int.fdiv (a0.getD 4 0) (2 ^ 51))].getD 0 0))), (IntKind.u64.wrap ((bits .and .u64 (a0.getD 2 0) 2251799813685247) + ([(Int.fdiv (a0.getD 0 0) (2 ^ 51)), (Int.fdiv (a0.getD 1 0) (2 ^ 51)), (Int.fdiv (a0.getD 2 0) (2 ^ 51)), (Int.fdiv (a0.getD 3 0) (2 ^ 51)), (Int.fdiv (a0.getD 4 0) (2 ^ 51))].getD 1 0))), (IntKind.u64.wrap ((bits .and .u64 (a0.getD 3 0) 2251799813685247) + ([(Int.fdiv (a0.getD 0 0) (2 ^ 51)), (Int.fdiv (a0.getD 1 0) (2 ^ 51)), (Int.fdiv (a0.getD 2 0) (2 ^ 51)), (Int.fdiv (a0.getD 3 0) (2 ^ 51)), (Int.fdiv (a0.getD 4 0) (2 ^ 51))].getD 2 0))), (IntKind.u64.wrap ((bits .and .u64 (a0.getD 4 0) 2251799813685247) + ([(Int.fdiv (a0.getD 0 0) (2 ^ 51)), (Int.fdiv (a0.getD 1 0) (2 ^ 51)), (Int.fdiv (a0.getD 2 0) (2 ^ 51)), (Int.fdiv (a0.getD 3 0) (2 ^ 51)), (Int.fdiv (a0.getD 4 0) (2 ^ 51))].getD 3 0)))] : List Int) = 5)).trans ((ints_length _ _).trans List.length_replicate).symm)) (by decide) ?_; intro w hp
  refine k_end ?_; intro e34 qe34
  have s2_e34 : e34 2 = .pointer (some ⟨g2, 0, none⟩) := (congrFun qe34 2).trans s2_e33
  clear qe34
  refine wret rfl ?_
  have hr : r = [(IntKind.u64.wrap ((bits .and .u64 (a0.getD 0 0) 2251799813685247) + (IntKind.u64.wrap (19 * ([(Int.fdiv (a0.getD 0 0) (2 ^ 51)), (Int.fdiv (a0.getD 1 0) (2 ^ 51)), (Int.fdiv (a0.getD 2 0) (2 ^ 51)), (Int.fdiv (a0.getD 3 0) (2 ^ 51)), (Int.fdiv (a0.getD 4 0) (2 ^ 51))].getD 4 0))))), (IntKind.u64.wrap ((bits .and .u64 (a0.getD 1 0) 2251799813685247) + ([(Int.fdiv (a0.getD 0 0) (2 ^ 51)), (Int.fdiv (a0.getD 1 0) (2 ^ 51)), (Int.fdiv (a0.getD 2 0) (2 ^ 51)), (Int.fdiv (a0.getD 3 0) (2 ^ 51)), (Int.fdiv (a0.getD 4 0) (2 ^ 51))].getD 0 0))), (IntKind.u64.wrap ((bits .and .u64 (a0.getD 2 0) 2251799813685247) + ([(Int.fdiv (a0.getD 0 0) (2 ^ 51)), (Int.fdiv (a0.getD 1 0) (2 ^ 51)), (Int.fdiv (a0.getD 2 0) (2 ^ 51)), (Int.fdiv (a0.getD 3 0) (2 ^ 51)), (Int.fdiv (a0.getD 4 0) (2 ^ 51))].getD 1 0))), (IntKind.u64.wrap ((bits .and .u64 (a0.getD 3 0) 2251799813685247) + ([(Int.fdiv (a0.getD 0 0) (2 ^ 51)), (Int.fdiv (a0.getD 1 0) (2 ^ 51)), (Int.fdiv (a0.getD 2 0) (2 ^ 51)), (Int.fdiv (a0.getD 3 0) (2 ^ 51)), (Int.fdiv (a0.getD 4 0) (2 ^ 51))].getD 2 0))), (IntKind.u64.wrap ((bits .and .u64 (a0.getD 4 0) 2251799813685247) + ([(Int.fdiv (a0.getD 0 0) (2 ^ 51)), (Int.fdiv (a0.getD 1 0) (2 ^ 51)), (Int.fdiv (a0.getD 2 0) (2 ^ 51)), (Int.fdiv (a0.getD 3 0) (2 ^ 51)), (Int.fdiv (a0.getD 4 0) (2 ^ 51))].getD 3 0)))] := (Option.some.inj h).symm
  show RetP _ _ _ _ _
  rw [hr]
  exact ret_i [.agg (ints .u64 [(IntKind.u64.wrap ((bits .and .u64 (a0.getD 0 0) 2251799813685247) + (IntKind.u64.wrap (19 * ([(Int.fdiv (a0.getD 0 0) (2 ^ 51)), (Int.fdiv (a0.getD 1 0) (2 ^ 51)), (Int.fdiv (a0.getD 2 0) (2 ^ 51)), (Int.fdiv (a0.getD 3 0) (2 ^ 51)), (Int.fdiv (a0.getD 4 0) (2 ^ 51))].getD 4 0))))), (IntKind.u64.wrap ((bits .and .u64 (a0.getD 1 0) 2251799813685247) + ([(Int.fdiv (a0.getD 0 0) (2 ^ 51)), (Int.fdiv (a0.getD 1 0) (2 ^ 51)), (Int.fdiv (a0.getD 2 0) (2 ^ 51)), (Int.fdiv (a0.getD 3 0) (2 ^ 51)), (Int.fdiv (a0.getD 4 0) (2 ^ 51))].getD 0 0))), (IntKind.u64.wrap ((bits .and .u64 (a0.getD 2 0) 2251799813685247) + ([(Int.fdiv (a0.getD 0 0) (2 ^ 51)), (Int.fdiv (a0.getD 1 0) (2 ^ 51)), (Int.fdiv (a0.getD 2 0) (2 ^ 51)), (Int.fdiv (a0.getD 3 0) (2 ^ 51)), (Int.fdiv (a0.getD 4 0) (2 ^ 51))].getD 1 0))), (IntKind.u64.wrap ((bits .and .u64 (a0.getD 3 0) 2251799813685247) + ([(Int.fdiv (a0.getD 0 0) (2 ^ 51)), (Int.fdiv (a0.getD 1 0) (2 ^ 51)), (Int.fdiv (a0.getD 2 0) (2 ^ 51)), (Int.fdiv (a0.getD 3 0) (2 ^ 51)), (Int.fdiv (a0.getD 4 0) (2 ^ 51))].getD 2 0))), (IntKind.u64.wrap ((bits .and .u64 (a0.getD 4 0) 2251799813685247) + ([(Int.fdiv (a0.getD 0 0) (2 ^ 51)), (Int.fdiv (a0.getD 1 0) (2 ^ 51)), (Int.fdiv (a0.getD 2 0) (2 ^ 51)), (Int.fdiv (a0.getD 3 0) (2 ^ 51)), (Int.fdiv (a0.getD 4 0) (2 ^ 51))].getD 3 0)))]).toArray] (res_cell s2_e34 (loadVar_agg (by kernel_rfl) (by kernel_rfl) ((ints_length _ _).trans (rfl : List.length ([(IntKind.u64.wrap ((bits .and .u64 (a0.getD 0 0) 2251799813685247) + (IntKind.u64.wrap (19 * ([(Int.fdiv (a0.getD 0 0) (2 ^ 51)), (Int.fdiv (a0.getD 1 0) (2 ^ 51)), (Int.fdiv (a0.getD 2 0) (2 ^ 51)), (Int.fdiv (a0.getD 3 0) (2 ^ 51)), (Int.fdiv (a0.getD 4 0) (2 ^ 51))].getD 4 0))))), (IntKind.u64.wrap ((bits .and .u64 (a0.getD 1 0) 2251799813685247) + ([(Int.fdiv (a0.getD 0 0) (2 ^ 51)), (Int.fdiv (a0.getD 1 0) (2 ^ 51)), (Int.fdiv (a0.getD 2 0) (2 ^ 51)), (Int.fdiv (a0.getD 3 0) (2 ^ 51)), (Int.fdiv (a0.getD 4 0) (2 ^ 51))].getD 0 0))), (IntKind.u64.wrap ((bits .and .u64 (a0.getD 2 0) 2251799813685247) + ([(Int.fdiv (a0.getD 0 0) (2 ^ 51)), (Int.fdiv (a0.getD 1 0) (2 ^ 51)), (Int.fdiv (a0.getD 2 0) (2 ^ 51)), (Int.fdiv (a0.getD 3 0) (2 ^ 51)), (Int.fdiv (a0.getD 4 0) (2 ^ 51))].getD 1 0))), (IntKind.u64.wrap ((bits .and .u64 (a0.getD 3 0) 2251799813685247) + ([(Int.fdiv (a0.getD 0 0) (2 ^ 51)), (Int.fdiv (a0.getD 1 0) (2 ^ 51)), (Int.fdiv (a0.getD 2 0) (2 ^ 51)), (Int.fdiv (a0.getD 3 0) (2 ^ 51)), (Int.fdiv (a0.getD 4 0) (2 ^ 51))].getD 2 0))), (IntKind.u64.wrap ((bits .and .u64 (a0.getD 4 0) 2251799813685247) + ([(Int.fdiv (a0.getD 0 0) (2 ^ 51)), (Int.fdiv (a0.getD 1 0) (2 ^ 51)), (Int.fdiv (a0.getD 2 0) (2 ^ 51)), (Int.fdiv (a0.getD 3 0) (2 ^ 51)), (Int.fdiv (a0.getD 4 0) (2 ^ 51))].getD 3 0)))] : List Int) = 5)) (hp.get (j := 1) rfl) rfl rfl rfl) res_nil) ⟨rfl, (rfl : List.length ([(IntKind.u64.wrap ((bits .and .u64 (a0.getD 0 0) 2251799813685247) + (IntKind.u64.wrap (19 * ([(Int.fdiv (a0.getD 0 0) (2 ^ 51)), (Int.fdiv (a0.getD 1 0) (2 ^ 51)), (Int.fdiv (a0.getD 2 0) (2 ^ 51)), (Int.fdiv (a0.getD 3 0) (2 ^ 51)), (Int.fdiv (a0.getD 4 0) (2 ^ 51))].getD 4 0))))), (IntKind.u64.wrap ((bits .and .u64 (a0.getD 1 0) 2251799813685247) + ([(Int.fdiv (a0.getD 0 0) (2 ^ 51)), (Int.fdiv (a0.getD 1 0) (2 ^ 51)), (Int.fdiv (a0.getD 2 0) (2 ^ 51)), (Int.fdiv (a0.getD 3 0) (2 ^ 51)), (Int.fdiv (a0.getD 4 0) (2 ^ 51))].getD 0 0))), (IntKind.u64.wrap ((bits .and .u64 (a0.getD 2 0) 2251799813685247) + ([(Int.fdiv (a0.getD 0 0) (2 ^ 51)), (Int.fdiv (a0.getD 1 0) (2 ^ 51)), (Int.fdiv (a0.getD 2 0) (2 ^ 51)), (Int.fdiv (a0.getD 3 0) (2 ^ 51)), (Int.fdiv (a0.getD 4 0) (2 ^ 51))].getD 1 0))), (IntKind.u64.wrap ((bits .and .u64 (a0.getD 3 0) 2251799813685247) + ([(Int.fdiv (a0.getD 0 0) (2 ^ 51)), (Int.fdiv (a0.getD 1 0) (2 ^ 51)), (Int.fdiv (a0.getD 2 0) (2 ^ 51)), (Int.fdiv (a0.getD 3 0) (2 ^ 51)), (Int.fdiv (a0.getD 4 0) (2 ^ 51))].getD 2 0))), (IntKind.u64.wrap ((bits .and .u64 (a0.getD 4 0) 2251799813685247) + ([(Int.fdiv (a0.getD 0 0) (2 ^ 51)), (Int.fdiv (a0.getD 1 0) (2 ^ 51)), (Int.fdiv (a0.getD 2 0) (2 ^ 51)), (Int.fdiv (a0.getD 3 0) (2 ^ 51)), (Int.fdiv (a0.getD 4 0) (2 ^ 51))].getD 3 0)))] : List Int) = 5), hp.none⟩
/-! 24 (postilion/field.Element).Times -/
set_option maxHeartbeats 2000000 in
theorem field_Element_Times_ok (a0 : List Int) (a1 : List Int) (la0 : a0.length = 5) (la1 : a1.length = 5) (w0 : World) (hp : Hp w0 [] w0 [] []) {r : List Int} (h : field_Element_Times.f a0 a1 = some r) :
    Calls Try.prog 24 [.agg (ints .u64 a0).toArray, .agg (ints .u64 a1).toArray].toArray w0 fun x w' => ∃ v, x = .returned v ∧ v = .agg (ints .u64 r).toArray ∧ r.length = 5 ∧ Hp w0 [] w' [] [] := by
  refine calls_in Try.func24 rfl (Nat.le_of_ble_eq_true (by kernel_rfl)) (by kernel_rfl) ?_
  intro e0 qe0
  have s0_e0 : e0 0 = .agg (ints .u64 a0).toArray := congrFun qe0 0
  have s1_e0 : e0 1 = .agg (ints .u64 a1).toArray := congrFun qe0 1
  clear qe0
  unfold field_Element_Times.f at h
  refine wseq rfl ?_
  refine wregion (.ef 0 (.ef 1 (.ef 2 (.done)))) [] rfl (by kernel_rfl) (by kernel_rfl) ?_
  refine k_box (v := .agg (ints .u64 a0).toArray) (ints .u64 a0) rfl s0_e0 rfl hp ?_
  intro g1 w hbg1 hp
  refine k_box (v := .agg (ints .u64 a1).toArray) (ints .u64 a1) rfl s1_e0 rfl hp ?_
  intro g2 w hbg2 hp
  refine k_alloc (ints .u64 (List.replicate 5 (0 : Int))) rfl (by kernel_rfl) hp ?_
  intro g3 w hbg3 hp
  refine k_end ?_; intro e35 qe35
  have s2_e35 : e35 2 = .pointer (some ⟨g1, 0, none⟩) := congrFun qe35 2
  have s3_e35 : e35 3 = .pointer (some ⟨g2, 0, none⟩) := congrFun qe35 3
  have s4_e35 : e35 4 = .pointer (some ⟨g3, 0, none⟩) := congrFun qe35 4
  clear qe35
  refine wseq rfl ?_
  refine wregion (.tp 0 (.tk 1 (.tp 2 (.tp 3 (.tk 4 (.tp 5 (.tp 6 (.tk 7 (.tp 8 (.tp 9 (.tk 10 (.tp 11 (.tp 12 (.ef 13 (.ef 14 (.done)))))))))))))))) [14] rfl (by kernel_rfl) (by kernel_rfl) ?_
  refine k_indexA (n := 5) (s := 1) (j := 1) rfl Try.underlying34 (by kernel_rfl) s3_e35 rfl (by decide) ?_
  refine k_load (j := 1) (v := .int .u64 (a1.getD 1 0)) rfl (by kernel_rfl) rfl (hp.get (j := 1) rfl) rfl rfl (ints_get (Nat.lt_of_lt_of_eq (m := 5) (by decide) (la1).symm)) ?_
  refine k_bin (X := .int .u64 19) (Y := .int .u64 (a1.getD 1 0)) rfl rfl rfl rfl ?_
  refine k_indexA (n := 5) (s := 1) (j := 2) rfl Try.underlying34 (by kernel_rfl) s3_e35 rfl (by decide) ?_
  refine k_load (j := 2) (v := .int .u64 (a1.getD 2 0)) rfl (by kernel_rfl) rfl (hp.get (j := 1) rfl) rfl rfl (ints_get (Nat.lt_of_lt_of_eq (m := 5) (by decide) (la1).symm)) ?_
  refine k_bin (X := .int .u64 19) (Y := .int .u64 (a1.getD 2 0)) rfl rfl rfl rfl ?_
  refine k_indexA (n := 5) (s := 1) (j := 3) rfl Try.underlying34 (by kernel_rfl) s3_e35 rfl (by decide) ?_
  refine k_load (j := 3) (v := .int .u64 (a1.getD 3 0)) rfl (by kernel_rfl) rfl (hp.get (j := 1) rfl) rfl rfl (ints_get (Nat.lt_of_lt_of_eq (m := 5) (by decide) (la1).symm)) ?_
  refine k_bin (X := .int .u64 19) (Y := .int .u64 (a1.getD 3 0)) rfl rfl rfl rfl ?_
  refine k_indexA (n := 5) (s := 1) (j := 4) rfl Try.underlying34 (by kernel_rfl) s3_e35 rfl (by decide) ?_
  refine k_load (j := 4) (v := .int .u64 (a1.getD 4 0)) rfl (by kernel_rfl) rfl (hp.get (j := 1) rfl) rfl rfl (ints_get (Nat.lt_of_lt_of_eq (m := 5) (by decide) (la1).symm)) ?_
  refine k_bin (X := .int .u64 19) (Y := .int .u64 (a1.getD 4 0)) rfl rfl rfl rfl ?_
  refine k_build (v := .agg (ints .u64 [0, (IntKind.u64.wrap (19 * (a1.getD 1 0))), (IntKind.u64.wrap (19 * (a1.getD 2 0))), (IntKind.u64.wrap (19 * (a1.getD 3 0))), (IntKind.u64.wrap (19 * (a1.getD 4 0)))]).toArray) rfl (fun _ => by kernel_rfl) ?_
  refine k_alloc (ints .u64 (List.replicate 5 (0 : Int))) rfl (by kernel_rfl) hp ?_
  intro g4 w hbg4 hp
  refine k_storeA (v := .agg (ints .u64 [0, (IntKind.u64.wrap (19 * (a1.getD 1 0))), (IntKind.u64.wrap (19 * (a1.getD 2 0))), (IntKind.u64.wrap (19 * (a1.getD 3 0))), (IntKind.u64.wrap (19 * (a1.getD 4 0)))]).toArray) 3 0 (r := ⟨g4, 0, ints .u64 (List.replicate 5 (0 : Int))⟩) (ints .u64 [0, (IntKind.u64.wrap (19 * (a1.getD 1 0))), (IntKind.u64.wrap (19 * (a1.getD 2 0))), (IntKind.u64.wrap (19 * (a1.getD 3 0))), (IntKind.u64.wrap (19 * (a1.getD 4 0)))]) (ints .u64 [0, (IntKind.u64.wrap (19 * (a1.getD 1 0))), (IntKind.u64.wrap (19 * (a1.getD 2 0))), (IntKind.u64.wrap (19 * (a1.getD 3 0))), (IntKind.u64.wrap (19 * (a1.getD 4 0)))]) rfl (n := 5) (by kernel_rfl) rfl rfl rfl ((ints_length _ _).trans (rfl : List.length ([0, (IntKind.u64.wrap (19 * (a1.getD 1 0))), (IntKind.u64.wrap (19 * (a1.getD 2 0))), (IntKind.u64.wrap (19 * (a1.getD 3 0))), (IntKind.u64.wrap (19 * (a1.getD 4 0)))] : List Int) = 5)) (ints_one _ _) hp rfl rfl rfl (Nat.le_of_eq ((Nat.zero_add _).trans ((ints_length _ _).trans List.length_replicate).symm)) (setMany_all _ _ (((ints_length _ _).trans (rfl : List.length ([0, (IntKind.u64.wrap (19 * (a1.getD 1 0))), (IntKind.u64.wrap (19 * (a1.getD 2 0))), (IntKind.u64.wrap (19 * (a1.getD 3 0))), (IntKind.u64.wrap (19 * (a1.getD 4 0)))] : List Int) = 5)).trans ((ints_length _ _).trans List.length_replicate).symm)) (by decide) ?_; intro w hp
  refine k_end ?_; intro e36 qe36
  have s2_e36 : e36 2 = .pointer (some ⟨g1, 0, none⟩) := (congrFun qe36 2).trans s2_e35
  have s3_e36 : e36 3 = .pointer (some ⟨g2, 0, none⟩) := (congrFun qe36 3).trans s3_e35
  have s4_e36 : e36 4 = .pointer (some ⟨g3, 0, none⟩) := (congrFun qe36 4).trans s4_e35
  have s5_e36 : e36 5 = .pointer (some ⟨g4, 0, none⟩) := congrFun qe36 5
  clear qe36
  refine wseq rfl ?_
  obtain ⟨r5, qr5, h⟩ := bd_e h
  obtain ⟨r6, qr6, h⟩ := bd_e h
  obtain ⟨r7, qr7, h⟩ := bd_e h
  obtain ⟨r8, qr8, h⟩ := bd_e h
  obtain ⟨r9, qr9, h⟩ := bd_e h
  obtain ⟨r10, qr10, h⟩ := bd_e h
  obtain ⟨r11, qr11, h⟩ := bd_e h
  obtain ⟨r12, qr12, h⟩ := bd_e h
  obtain ⟨r13, qr13, h⟩ := bd_e h
  obtain ⟨r14, qr14, h⟩ := bd_e h
  obtain ⟨r15, qr15, h⟩ := bd_e h
  obtain ⟨r16, qr16, h⟩ := bd_e h
  obtain ⟨r17, qr17, h⟩ := bd_e h
  obtain ⟨r18, qr18, h⟩ := bd_e h
  obtain ⟨r19, qr19, h⟩ := bd_e h
  obtain ⟨r20, qr20, h⟩ := bd_e h
  obtain ⟨r21, qr21, h⟩ := bd_e h
  obtain ⟨r22, qr22, h⟩ := bd_e h
  obtain ⟨r23, qr23, h⟩ := bd_e h
  obtain ⟨r24, qr24, h⟩ := bd_e h
  obtain ⟨r25, qr25, h⟩ := bd_e h
  obtain ⟨r26, qr26, h⟩ := bd_e h
  obtain ⟨r27, qr27, h⟩ := bd_e h
  obtain ⟨r28, qr28, h⟩ := bd_e h
  obtain ⟨r29, qr29, h⟩ := bd_e h
  refine wcut (fun e37 w2 => ∃ g30 : Nat, r9.length = 2 ∧ r14.length = 2 ∧ r19.length = 2 ∧ r24.length = 2 ∧ r29.length = 2 ∧ e37 4 = .pointer (some ⟨g3, 0, none⟩) ∧ e37 6 = .pointer (some ⟨g30, 0, none⟩) ∧ Hp w0 [] w2 [⟨g1, 0, ints .u64 a0⟩, ⟨g2, 0, ints .u64 a1⟩, ⟨g3, 0, ints .u64 (List.replicate 5 (0 : Int))⟩, ⟨g4, 0, ints .u64 [0, (IntKind.u64.wrap (19 * (a1.getD 1 0))), (IntKind.u64.wrap (19 * (a1.getD 2 0))), (IntKind.u64.wrap (19 * (a1.getD 3 0))), (IntKind.u64.wrap (19 * (a1.getD 4 0)))]⟩, ⟨g30, 0, ints .u64 (r9 ++ r14 ++ r19 ++ r24 ++ r29)⟩] []) ?_ ?_
  rotate_left
  · refine wregion_m (.tp 0 (.tp 1 (.tk 2 (.tp 3 (.tk 4 (.tp 6 (.tk 7 (.tp 8 (.tk 9 (.tp 11 (.tk 12 (.tp 13 (.tk 14 (.tp 16 (.tk 17 (.tp 18 (.tk 19 (.tp 21 (.tk 22 (.tp 23 (.tk 24 (.tp 26 (.tp 27 (.tk 28 (.tp 29 (.tk 30 (.tp 32 (.tk 33 (.tp 34 (.tk 35 (.tp 37 (.tk 38 (.tp 39 (.tk 40 (.tp 42 (.tk 43 (.tp 44 (.tk 45 (.tp 47 (.tk 48 (.tp 49 (.tk 50 (.tp 52 (.tp 53 (.tk 54 (.tp 55 (.tk 56 (.tp 58 (.tk 59 (.tp 60 (.tk 61 (.tp 63 (.tk 64 (.tp 65 (.tk 66 (.tp 68 (.tk 69 (.tp 70 (.tk 71 (.tp 73 (.tk 74 (.tp 75 (.tk 76 (.tp 78 (.tp 79 (.tk 80 (.tp 81 (.tk 82 (.tp 84 (.tk 85 (.tp 86 (.tk 87 (.tp 89 (.tk 90 (.tp 91 (.tk 92 (.tp 94 (.tk 95 (.tp 96 (.tk 97 (.tp 99 (.tk 100 (.tp 101 (.tk 102 (.tp 104 (.tp 105 (.tk 106 (.tp 107 (.tk 108 (.tp 110 (.tk 111 (.tp 112 (.tk 113 (.tp 115 (.tk 116 (.tp 117 (.tk 118 (.tp 120 (.tk 121 (.tp 122 (.tk 123 (.tp 125 (.tk 126 (.tp 127 (.tk 128 (.alt (.ef 5 (.alt (.ef 10 (.alt (.ef 15 (.alt (.ef 20 (.alt (.ef 25 (.alt (.ef 31 (.alt (.ef 36 (.alt (.ef 41 (.alt (.ef 46 (.alt (.ef 51 (.alt (.ef 57 (.alt (.ef 62 (.alt (.ef 67 (.alt (.ef 72 (.alt (.ef 77 (.alt (.ef 83 (.alt (.ef 88 (.alt (.ef 93 (.alt (.ef 98 (.alt (.ef 103 (.alt (.ef 109 (.alt (.ef 114 (.alt (.ef 119 (.alt (.ef 124 (.alt (.ef 129 (.tp 130 (.ef 131 (.ef 132 (.done))))) (.ef 131 (.ef 129 (.tp 130 (.ef 132 (.done))))))) (.ef 131 (.ef 124 (.ef 129 (.tp 130 (.ef 132 (.done)))))))) (.ef 131 (.ef 119 (.ef 124 (.ef 129 (.tp 130 (.ef 132 (.done))))))))) (.ef 131 (.ef 114 (.ef 119 (.ef 124 (.ef 129 (.tp 130 (.ef 132 (.done)))))))))) (.ef 131 (.ef 109 (.ef 114 (.ef 119 (.ef 124 (.ef 129 (.tp 130 (.ef 132 (.done))))))))))) (.ef 131 (.ef 103 (.ef 109 (.ef 114 (.ef 119 (.ef 124 (.ef 129 (.tp 130 (.ef 132 (.done)))))))))))) (.ef 131 (.ef 98 (.ef 103 (.ef 109 (.ef 114 (.ef 119 (.ef 124 (.ef 129 (.tp 130 (.ef 132 (.done))))))))))))) (.ef 131 (.ef 93 (.ef 98 (.ef 103 (.ef 109 (.ef 114 (.ef 119 (.ef 124 (.ef 129 (.tp 130 (.ef 132 (.done)))))))))))))) (.ef 131 (.ef 88 (.ef 93 (.ef 98 (.ef 103 (.ef 109 (.ef 114 (.ef 119 (.ef 124 (.ef 129 (.tp 130 (.ef 132 (.done))))))))))))))) (.ef 131 (.ef 83 (.ef 88 (.ef 93 (.ef 98 (.ef 103 (.ef 109 (.ef 114 (.ef 119 (.ef 124 (.ef 129 (.tp 130 (.ef 132 (.done)))))))))))))))) (.ef 131 (.ef 77 (.ef 83 (.ef 88 (.ef 93 (.ef 98 (.ef 103 (.ef 109 (.ef 114 (.ef 119 (.ef 124 (.ef 129 (.tp 130 (.ef 132 (.done))))))))))))))))) (.ef 131 (.ef 72 (.ef 77 (.ef 83 (.ef 88 (.ef 93 (.ef 98 (.ef 103 (.ef 109 (.ef 114 (.ef 119 (.ef 124 (.ef 129 (.tp 130 (.ef 132 (.done)))))))))))))))))) (.ef 131 (.ef 67 (.ef 72 (.ef 77 (.ef 83 (.ef 88 (.ef 93 (.ef 98 (.ef 103 (.ef 109 (.ef 114 (.ef 119 (.ef 124 (.ef 129 (.tp 130 (.ef 132 (.done))))))))))))))))))) (.ef 131 (.ef 62 (.ef 67 (.ef 72 (.ef 77 (.ef 83 (.ef 88 (.ef 93 (.ef 98 (.ef 103 (.ef 109 (.ef 114 (.ef 119 (.ef 124 (.ef 129 (.tp 130 (.ef 132 (.done)))))))))))))))))))) (.ef 131 (.ef 57 (.ef 62 (.ef 67 (.ef 72 (.ef 77 (.ef 83 (.ef 88 (.ef 93 (.ef 98 (.ef 103 (.ef 109 (.ef 114 (.ef 119 (.ef 124 (.ef 129 (.tp 130 (.ef 132 (.done))))))))))))))))))))) (.ef 131 (.ef 51 (.ef 57 (.ef 62 (.ef 67 (.ef 72 (.ef 77 (.ef 83 (.ef 88 (.ef 93 (.ef 98 (.ef 103 (.ef 109 (.ef 114 (.ef 119 (.ef 124 (.ef 129 (.tp 130 (.ef 132 (.done)))))))))))))))))))))) (.ef 131 (.ef 46 (.ef 51 (.ef 57 (.ef 62 (.ef 67 (.ef 72 (.ef 77 (.ef 83 (.ef 88 (.ef 93 (.ef 98 (.ef 103 (.ef 109 (.ef 114 (.ef 119 (.ef 124 (.ef 129 (.tp 130 (.ef 132 (.done))))))))))))))))))))))) (.ef 131 (.ef 41 (.ef 46 (.ef 51 (.ef 57 (.ef 62 (.ef 67 (.ef 72 (.ef 77 (.ef 83 (.ef 88 (.ef 93 (.ef 98 (.ef 103 (.ef 109 (.ef 114 (.ef 119 (.ef 124 (.ef 129 (.tp 130 (.ef 132 (.done)))))))))))))))))))))))) (.ef 131 (.ef 36 (.ef 41 (.ef 46 (.ef 51 (.ef 57 (.ef 62 (.ef 67 (.ef 72 (.ef 77 (.ef 83 (.ef 88 (.ef 93 (.ef 98 (.ef 103 (.ef 109 (.ef 114 (.ef 119 (.ef 124 (.ef 129 (.tp 130 (.ef 132 (.done))))))))))))))))))))))))) (.ef 131 (.ef 31 (.ef 36 (.ef 41 (.ef 46 (.ef 51 (.ef 57 (.ef 62 (.ef 67 (.ef 72 (.ef 77 (.ef 83 (.ef 88 (.ef 93 (.ef 98 (.ef 103 (.ef 109 (.ef 114 (.ef 119 (.ef 124 (.ef 129 (.tp 130 (.ef 132 (.done)))))))))))))))))))))))))) (.ef 131 (.ef 25 (.ef 31 (.ef 36 (.ef 41 (.ef 46 (.ef 51 (.ef 57 (.ef 62 (.ef 67 (.ef 72 (.ef 77 (.ef 83 (.ef 88 (.ef 93 (.ef 98 (.ef 103 (.ef 109 (.ef 114 (.ef 119 (.ef 124 (.ef 129 (.tp 130 (.ef 132 (.done))))))))))))))))))))))))))) (.ef 131 (.ef 20 (.ef 25 (.ef 31 (.ef 36 (.ef 41 (.ef 46 (.ef 51 (.ef 57 (.ef 62 (.ef 67 (.ef 72 (.ef 77 (.ef 83 (.ef 88 (.ef 93 (.ef 98 (.ef 103 (.ef 109 (.ef 114 (.ef 119 (.ef 124 (.ef 129 (.tp 130 (.ef 132 (.done)))))))))))))))))))))))))))) (.ef 131 (.ef 15 (.ef 20 (.ef 25 (.ef 31 (.ef 36 (.ef 41 (.ef 46 (.ef 51 (.ef 57 (.ef 62 (.ef 67 (.ef 72 (.ef 77 (.ef 83 (.ef 88 (.ef 93 (.ef 98 (.ef 103 (.ef 109 (.ef 114 (.ef 119 (.ef 124 (.ef 129 (.tp 130 (.ef 132 (.done))))))))))))))))))))))))))))) (.ef 131 (.ef 10 (.ef 15 (.ef 20 (.ef 25 (.ef 31 (.ef 36 (.ef 41 (.ef 46 (.ef 51 (.ef 57 (.ef 62 (.ef 67 (.ef 72 (.ef 77 (.ef 83 (.ef 88 (.ef 93 (.ef 98 (.ef 103 (.ef 109 (.ef 114 (.ef 119 (.ef 124 (.ef 129 (.tp 130 (.ef 132 (.done)))))))))))))))))))))))))))))) (.ef 131 (.ef 5 (.ef 10 (.ef 15 (.ef 20 (.ef 25 (.ef 31 (.ef 36 (.ef 41 (.ef 46 (.ef 51 (.ef 57 (.ef 62 (.ef 67 (.ef 72 (.ef 77 (.ef 83 (.ef 88 (.ef 93 (.ef 98 (.ef 103 (.ef 109 (.ef 114 (.ef 119 (.ef 124 (.ef 129 (.tp 130 (.ef 132 (.done))))))))))))))))))))))))))))))))))))))))))))))))))))))))))))))))))))))))))))))))))))))))))))))))))))))))))))))))))))))))))))))))))))))) [132] [(0, 0, 10889035741470030830827987437816582766591), (0, 0, 10889035741470030830827987437816582766591), (2, 2, 0), (0, 0, 10889035741470030830827987437816582766591), (8, 8, 0), (21, 10889035741470030830827987437816582766591, 10889035741470030830827987437816582766591), (0, 0, 10889035741470030830827987437816582766591), (64, 64, 0), (0, 0, 10889035741470030830827987437816582766591), (256, 256, 0), (672, 10889035741470030830827987437816582766591, 10889035741470030830827987437816582766591), (0, 0, 10889035741470030830827987437816582766591), (2048, 2048, 0), (0, 0, 10889035741470030830827987437816582766591), (8192, 8192, 0), (21504, 10889035741470030830827987437816582766591, 10889035741470030830827987437816582766591), (0, 0, 10889035741470030830827987437816582766591), (65536, 65536, 0), (0, 0, 10889035741470030830827987437816582766591), (262144, 262144, 0), (688128, 10889035741470030830827987437816582766591, 10889035741470030830827987437816582766591), (0, 0, 10889035741470030830827987437816582766591), (2097152, 2097152, 0), (0, 0, 10889035741470030830827987437816582766591), (8388608, 8388608, 0), (22020096, 10889035741470030830827987437816582766591, 10889035741470030830827987437816582766591), (0, 0, 10889035741470030830827987437816582766591), (0, 0, 10889035741470030830827987437816582766591), (134217728, 134217728, 0), (0, 0, 10889035741470030830827987437816582766591), (536870912, 536870912, 0), (1442840576, 10889035741470030830827987437816582766591, 10889035741470030830827987437816582766591), (0, 0, 10889035741470030830827987437816582766591), (4294967296, 4294967296, 0), (0, 0, 10889035741470030830827987437816582766591), (17179869184, 17179869184, 0), (45097156608, 10889035741470030830827987437816582766591, 10889035741470030830827987437816582766591), (0, 0, 10889035741470030830827987437816582766591), (137438953472, 137438953472, 0), (0, 0, 10889035741470030830827987437816582766591), (549755813888, 549755813888, 0), (1443109011456, 10889035741470030830827987437816582766591, 10889035741470030830827987437816582766591), (0, 0, 10889035741470030830827987437816582766591), (4398046511104, 4398046511104, 0), (0, 0, 10889035741470030830827987437816582766591), (17592186044416, 17592186044416, 0), (46179488366592, 10889035741470030830827987437816582766591, 10889035741470030830827987437816582766591), (0, 0, 10889035741470030830827987437816582766591), (140737488355328, 140737488355328, 0), (0, 0, 10889035741470030830827987437816582766591), (562949953421312, 562949953421312, 0), (1477743627730944, 10889035741470030830827987437816582766591, 10889035741470030830827987437816582766591), (0, 0, 10889035741470030830827987437816582766591), (0, 0, 10889035741470030830827987437816582766591), (9007199254740992, 9007199254740992, 0), (0, 0, 10889035741470030830827987437816582766591), (36028797018963968, 36028797018963968, 0), (96827391988465664, 10889035741470030830827987437816582766591, 10889035741470030830827987437816582766591), (0, 0, 10889035741470030830827987437816582766591), (288230376151711744, 288230376151711744, 0), (0, 0, 10889035741470030830827987437816582766591), (1152921504606846976, 1152921504606846976, 0), (3026418949592973312, 10889035741470030830827987437816582766591, 10889035741470030830827987437816582766591), (0, 0, 10889035741470030830827987437816582766591), (9223372036854775808, 9223372036854775808, 0), (0, 0, 10889035741470030830827987437816582766591), (36893488147419103232, 36893488147419103232, 0), (96845406386975145984, 10889035741470030830827987437816582766591, 10889035741470030830827987437816582766591), (0, 0, 10889035741470030830827987437816582766591), (295147905179352825856, 295147905179352825856, 0), (0, 0, 10889035741470030830827987437816582766591), (1180591620717411303424, 1180591620717411303424, 0), (3099053004383204671488, 10889035741470030830827987437816582766591, 10889035741470030830827987437816582766591), (0, 0, 10889035741470030830827987437816582766591), (9444732965739290427392, 9444732965739290427392, 0), (0, 0, 10889035741470030830827987437816582766591), (37778931862957161709568, 37778931862957161709568, 0), (99169696140262549487616, 10889035741470030830827987437816582766591, 10889035741470030830827987437816582766591), (0, 0, 10889035741470030830827987437816582766591), (0, 0, 10889035741470030830827987437816582766591), (604462909807314587353088, 604462909807314587353088, 0), (0, 0, 10889035741470030830827987437816582766591), (2417851639229258349412352, 2417851639229258349412352, 0), (6497976280428631814045696, 10889035741470030830827987437816582766591, 10889035741470030830827987437816582766591), (0, 0, 10889035741470030830827987437816582766591), (19342813113834066795298816, 19342813113834066795298816, 0), (0, 0, 10889035741470030830827987437816582766591), (77371252455336267181195264, 77371252455336267181195264, 0), (203099537695257701350637568, 10889035741470030830827987437816582766591, 10889035741470030830827987437816582766591), (0, 0, 10889035741470030830827987437816582766591), (618970019642690137449562112, 618970019642690137449562112, 0), (0, 0, 10889035741470030830827987437816582766591), (2475880078570760549798248448, 2475880078570760549798248448, 0), (6499185206248246443220402176, 10889035741470030830827987437816582766591, 10889035741470030830827987437816582766591), (0, 0, 10889035741470030830827987437816582766591), (19807040628566084398385987584, 19807040628566084398385987584, 0), (0, 0, 10889035741470030830827987437816582766591), (79228162514264337593543950336, 79228162514264337593543950336, 0), (207973926599943886183052869632, 10889035741470030830827987437816582766591, 10889035741470030830827987437816582766591), (0, 0, 10889035741470030830827987437816582766591), (633825300114114700748351602688, 633825300114114700748351602688, 0), (0, 0, 10889035741470030830827987437816582766591), (2535301200456458802993406410752, 2535301200456458802993406410752, 0), (6655165651198204357857691828224, 10889035741470030830827987437816582766591, 10889035741470030830827987437816582766591), (0, 0, 10889035741470030830827987437816582766591), (0, 0, 10889035741470030830827987437816582766591), (40564819207303340847894502572032, 40564819207303340847894502572032, 0), (0, 0, 10889035741470030830827987437816582766591), (162259276829213363391578010288128, 162259276829213363391578010288128, 0), (436071806478510914114865902649344, 10889035741470030830827987437816582766591, 10889035741470030830827987437816582766591), (0, 0, 10889035741470030830827987437816582766591), (1298074214633706907132624082305024, 1298074214633706907132624082305024, 0), (0, 0, 10889035741470030830827987437816582766591), (5192296858534827628530496329220096, 5192296858534827628530496329220096, 0), (13629779253653922524892552864202752, 10889035741470030830827987437816582766591, 10889035741470030830827987437816582766591), (0, 0, 10889035741470030830827987437816582766591), (41538374868278621028243970633760768, 41538374868278621028243970633760768, 0), (0, 0, 10889035741470030830827987437816582766591), (166153499473114484112975882535043072, 166153499473114484112975882535043072, 0), (436152936116925520796561691654488064, 10889035741470030830827987437816582766591, 10889035741470030830827987437816582766591), (0, 0, 10889035741470030830827987437816582766591), (1329227995784915872903807060280344576, 1329227995784915872903807060280344576, 0), (0, 0, 10889035741470030830827987437816582766591), (5316911983139663491615228241121378304, 5316911983139663491615228241121378304, 0), (13956893955741616665489974132943618048, 10889035741470030830827987437816582766591, 10889035741470030830827987437816582766591), (0, 0, 10889035741470030830827987437816582766591), (42535295865117307932921825928971026432, 42535295865117307932921825928971026432, 0), (0, 0, 10889035741470030830827987437816582766591), (170141183460469231731687303715884105728, 170141183460469231731687303715884105728, 0), (446620606583731733295679172254195777536, 10889035741470030830827987437816582766591, 10889035741470030830827987437816582766591), (680564743983081879868314130465656143872, 680564743983081879868314130465656143872, 10889035741470030830827987437816582766591), (0, 10889035741470030830827987437816582766591, 10889035741470030830827987437816582766591), (5444517870735015415413993718908291383295, 10889035741470030830827987437816582766591, 10889035741470030830827987437816582766591)] rfl (by kernel_rfl) (by kernel_rfl) (Nat.le_of_ble_eq_true (by kernel_rfl)) (by kernel_rfl) (by kernel_rfl) ?_
    have hp := hp.drew
    refine k_join (p := (.ef 132 (.done))) (A := fun ej wj => ∃ g30 : Nat, r9.length = 2 ∧ r14.length = 2 ∧ r19.length = 2 ∧ r24.length = 2 ∧ r29.length = 2 ∧ ej 4 = .pointer (some ⟨g3, 0, none⟩) ∧ ej 6 = .pointer (some ⟨g30, 0, none⟩) ∧ ej 150 = .agg (ints .u64 (r9 ++ r14 ++ r19 ++ r24 ++ r29)).toArray ∧ Hp w0 [] wj [⟨g1, 0, ints .u64 a0⟩, ⟨g2, 0, ints .u64 a1⟩, ⟨g3, 0, ints .u64 (List.replicate 5 (0 : Int))⟩, ⟨g4, 0, ints .u64 [0, (IntKind.u64.wrap (19 * (a1.getD 1 0))), (IntKind.u64.wrap (19 * (a1.getD 2 0))), (IntKind.u64.wrap (19 * (a1.getD 3 0))), (IntKind.u64.wrap (19 * (a1.getD 4 0)))]⟩, ⟨g30, 0, ints .u64 (List.replicate 10 (0 : Int))⟩] []) ?_ (fun T38 => ?_)
    · rintro ej38 w ⟨g30, lr90, lr140, lr190, lr240, lr290, f4_38, f6_38, f150_38, hp⟩
      refine k_storeA (v := .agg (ints .u64 (r9 ++ r14 ++ r19 ++ r24 ++ r29)).toArray) 4 0 (r := ⟨g30, 0, ints .u64 (List.replicate 10 (0 : Int))⟩) (ints .u64 (r9 ++ r14 ++ r19 ++ r24 ++ r29)) (ints .u64 (r9 ++ r14 ++ r19 ++ r24 ++ r29)) rfl (n := 10) (by kernel_rfl) f6_38 f150_38 rfl ((ints_length _ _).trans (show List.length ((r9 ++ r14 ++ r19 ++ r24 ++ r29) : List Int) = 10 by simp [lr90, lr140, lr190, lr240, lr290])) (ints_one _ _) hp rfl rfl rfl (Nat.le_of_eq ((Nat.zero_add _).trans ((ints_length _ _).trans List.length_replicate).symm)) (setMany_all _ _ (((ints_length _ _).trans (show List.length ((r9 ++ r14 ++ r19 ++ r24 ++ r29) : List Int) = 10 by simp [lr90, lr140, lr190, lr240, lr290])).trans ((ints_length _ _).trans List.length_replicate).symm)) (by decide) ?_; intro w hp
      refine k_endI ?_; intro e37 qe37
      exact ⟨g30, lr90, lr140, lr190, lr240, lr290, (congrFun qe37 4).trans f4_38, (congrFun qe37 6).trans f6_38, hp⟩
    refine k_join (p := (.ef 129 (.tp 130 (.ef 132 (.done))))) (A := fun ej wj => ∃ g30 : Nat, r9.length = 2 ∧ r14.length = 2 ∧ r19.length = 2 ∧ r24.length = 2 ∧ r28.length = 2 ∧ ej 4 = .pointer (some ⟨g3, 0, none⟩) ∧ ej 6 = .pointer (some ⟨g30, 0, none⟩) ∧ ej 45 = .agg (ints .u64 r9).toArray ∧ ej 71 = .agg (ints .u64 r14).toArray ∧ ej 97 = .agg (ints .u64 r19).toArray ∧ ej 123 = .agg (ints .u64 r24).toArray ∧ ej 144 = .agg (ints .u64 r28).toArray ∧ ej 146 = .int .u64 (a0.getD 4 0) ∧ ej 148 = .int .u64 (a1.getD 0 0) ∧ Hp w0 [] wj [⟨g1, 0, ints .u64 a0⟩, ⟨g2, 0, ints .u64 a1⟩, ⟨g3, 0, ints .u64 (List.replicate 5 (0 : Int))⟩, ⟨g4, 0, ints .u64 [0, (IntKind.u64.wrap (19 * (a1.getD 1 0))), (IntKind.u64.wrap (19 * (a1.getD 2 0))), (IntKind.u64.wrap (19 * (a1.getD 3 0))), (IntKind.u64.wrap (19 * (a1.getD 4 0)))]⟩, ⟨g30, 0, ints .u64 (List.replicate 10 (0 : Int))⟩] []) ?_ (fun T39 => ?_)
    · rintro ej39 w ⟨g30, lr90, lr140, lr190, lr240, lr280, f4_39, f6_39, f45_39, f71_39, f97_39, f123_39, f144_39, f146_39, f148_39, hp⟩
      refine k_call [.agg (ints .u64 r28).toArray, .int .u64 (a0.getD 4 0), .int .u64 (a1.getD 0 0)] rfl (by kernel_rfl) (args3 f144_39 f146_39 f148_39) (field_wide_add_ok r28 (a0.getD 4 0) (a1.getD 0 0) lr280 _ (hp.toR (fun _ h => by cases h)) qr29) ?_
      rintro _ w' ⟨_, rfl, rfl, lr290, hpc⟩
      refine ⟨_, rfl, .inr (.of_below hpc.chg.to_below), ?_⟩; have hp := hp.below hpc.chg.to_below; clear hpc
      refine k_buildP (v := .agg (ints .u64 (r9 ++ r14 ++ r19 ++ r24 ++ r29)).toArray) [(0, .agg (ints .u64 r9).toArray), (1, .agg (ints .u64 r14).toArray), (2, .agg (ints .u64 r19).toArray), (3, .agg (ints .u64 r24).toArray), (4, .agg (ints .u64 r29).toArray)] rfl (pcons f45_39 (pcons f71_39 (pcons f97_39 (pcons f123_39 (pcons rfl pnil))))) (fun _ => by rw [lst r9 lr90, lst r14 lr140, lst r19 lr190, lst r24 lr240, lst r29 lr290]; kernel_rfl) ?_
      exact T38 _ _ ⟨g30, lr90, lr140, lr190, lr240, lr290, f4_39, f6_39, rfl, hp⟩
    refine k_join (p := (.ef 124 (.ef 129 (.tp 130 (.ef 132 (.done)))))) (A := fun ej wj => ∃ g30 : Nat, r9.length = 2 ∧ r14.length = 2 ∧ r19.length = 2 ∧ r24.length = 2 ∧ r27.length = 2 ∧ ej 4 = .pointer (some ⟨g3, 0, none⟩) ∧ ej 6 = .pointer (some ⟨g30, 0, none⟩) ∧ ej 45 = .agg (ints .u64 r9).toArray ∧ ej 71 = .agg (ints .u64 r14).toArray ∧ ej 97 = .agg (ints .u64 r19).toArray ∧ ej 123 = .agg (ints .u64 r24).toArray ∧ ej 139 = .agg (ints .u64 r27).toArray ∧ ej 141 = .int .u64 (a0.getD 3 0) ∧ ej 143 = .int .u64 (a1.getD 1 0) ∧ ej 146 = .int .u64 (a0.getD 4 0) ∧ ej 148 = .int .u64 (a1.getD 0 0) ∧ Hp w0 [] wj [⟨g1, 0, ints .u64 a0⟩, ⟨g2, 0, ints .u64 a1⟩, ⟨g3, 0, ints .u64 (List.replicate 5 (0 : Int))⟩, ⟨g4, 0, ints .u64 [0, (IntKind.u64.wrap (19 * (a1.getD 1 0))), (IntKind.u64.wrap (19 * (a1.getD 2 0))), (IntKind.u64.wrap (19 * (a1.getD 3 0))), (IntKind.u64.wrap (19 * (a1.getD 4 0)))]⟩, ⟨g30, 0, ints .u64 (List.replicate 10 (0 : Int))⟩] []) ?_ (fun T40 => ?_)
    · rintro ej40 w ⟨g30, lr90, lr140, lr190, lr240, lr270, f4_40, f6_40, f45_40, f71_40, f97_40, f123_40, f139_40, f141_40, f143_40, f146_40, f148_40, hp⟩
      refine k_call [.agg (ints .u64 r27).toArray, .int .u64 (a0.getD 3 0), .int .u64 (a1.getD 1 0)] rfl (by kernel_rfl) (args3 f139_40 f141_40 f143_40) (field_wide_add_ok r27 (a0.getD 3 0) (a1.getD 1 0) lr270 _ (hp.toR (fun _ h => by cases h)) qr28) ?_
      rintro _ w' ⟨_, rfl, rfl, lr280, hpc⟩
      refine ⟨_, rfl, .inr (.of_below hpc.chg.to_below), ?_⟩; have hp := hp.below hpc.chg.to_below; clear hpc
      exact T39 _ _ ⟨g30, lr90, lr140, lr190, lr240, lr280, f4_40, f6_40, f45_40, f71_40, f97_40, f123_40, rfl, f146_40, f148_40, hp⟩
    refine k_join (p := (.ef 119 (.ef 124 (.ef 129 (.tp 130 (.ef 132 (.done))))))) (A := fun ej wj => ∃ g30 : Nat, r9.length = 2 ∧ r14.length = 2 ∧ r19.length = 2 ∧ r24.length = 2 ∧ r26.length = 2 ∧ ej 4 = .pointer (some ⟨g3, 0, none⟩) ∧ ej 6 = .pointer (some ⟨g30, 0, none⟩) ∧ ej 45 = .agg (ints .u64 r9).toArray ∧ ej 71 = .agg (ints .u64 r14).toArray ∧ ej 97 = .agg (ints .u64 r19).toArray ∧ ej 123 = .agg (ints .u64 r24).toArray ∧ ej 134 = .agg (ints .u64 r26).toArray ∧ ej 136 = .int .u64 (a0.getD 2 0) ∧ ej 138 = .int .u64 (a1.getD 2 0) ∧ ej 141 = .int .u64 (a0.getD 3 0) ∧ ej 143 = .int .u64 (a1.getD 1 0) ∧ ej 146 = .int .u64 (a0.getD 4 0) ∧ ej 148 = .int .u64 (a1.getD 0 0) ∧ Hp w0 [] wj [⟨g1, 0, ints .u64 a0⟩, ⟨g2, 0, ints .u64 a1⟩, ⟨g3, 0, ints .u64 (List.replicate 5 (0 : Int))⟩, ⟨g4, 0, ints .u64 [0, (IntKind.u64.wrap (19 * (a1.getD 1 0))), (IntKind.u64.wrap (19 * (a1.getD 2 0))), (IntKind.u64.wrap (19 * (a1.getD 3 0))), (IntKind.u64.wrap (19 * (a1.getD 4 0)))]⟩, ⟨g30, 0, ints .u64 (List.replicate 10 (0 : Int))⟩] []) ?_ (fun T41 => ?_)
    · rintro ej41 w ⟨g30, lr90, lr140, lr190, lr240, lr260, f4_41, f6_41, f45_41, f71_41, f97_41, f123_41, f134_41, f136_41, f138_41, f141_41, f143_41, f146_41, f148_41, hp⟩
      refine k_call [.agg (ints .u64 r26).toArray, .int .u64 (a0.getD 2 0), .int .u64 (a1.getD 2 0)] rfl (by kernel_rfl) (args3 f134_41 f136_41 f138_41) (field_wide_add_ok r26 (a0.getD 2 0) (a1.getD 2 0) lr260 _ (hp.toR (fun _ h => by cases h)) qr27) ?_
      rintro _ w' ⟨_, rfl, rfl, lr270, hpc⟩
      refine ⟨_, rfl, .inr (.of_below hpc.chg.to_below), ?_⟩; have hp := hp.below hpc.chg.to_below; clear hpc
      exact T40 _ _ ⟨g30, lr90, lr140, lr190, lr240, lr270, f4_41, f6_41, f45_41, f71_41, f97_41, f123_41, rfl, f141_41, f143_41, f146_41, f148_41, hp⟩
    refine k_join (p := (.ef 114 (.ef 119 (.ef 124 (.ef 129 (.tp 130 (.ef 132 (.done)))))))) (A := fun ej wj => ∃ g30 : Nat, r9.length = 2 ∧ r14.length = 2 ∧ r19.length = 2 ∧ r24.length = 2 ∧ r25.length = 2 ∧ ej 4 = .pointer (some ⟨g3, 0, none⟩) ∧ ej 6 = .pointer (some ⟨g30, 0, none⟩) ∧ ej 45 = .agg (ints .u64 r9).toArray ∧ ej 71 = .agg (ints .u64 r14).toArray ∧ ej 97 = .agg (ints .u64 r19).toArray ∧ ej 123 = .agg (ints .u64 r24).toArray ∧ ej 129 = .agg (ints .u64 r25).toArray ∧ ej 131 = .int .u64 (a0.getD 1 0) ∧ ej 133 = .int .u64 (a1.getD 3 0) ∧ ej 136 = .int .u64 (a0.getD 2 0) ∧ ej 138 = .int .u64 (a1.getD 2 0) ∧ ej 141 = .int .u64 (a0.getD 3 0) ∧ ej 143 = .int .u64 (a1.getD 1 0) ∧ ej 146 = .int .u64 (a0.getD 4 0) ∧ ej 148 = .int .u64 (a1.getD 0 0) ∧ Hp w0 [] wj [⟨g1, 0, ints .u64 a0⟩, ⟨g2, 0, ints .u64 a1⟩, ⟨g3, 0, ints .u64 (List.replicate 5 (0 : Int))⟩, ⟨g4, 0, ints .u64 [0, (IntKind.u64.wrap (19 * (a1.getD 1 0))), (IntKind.u64.wrap (19 * (a1.getD 2 0))), (IntKind.u64.wrap (19 * (a1.getD 3 0))), (IntKind.u64.wrap (19 * (a1.getD 4 0)))]⟩, ⟨g30, 0, ints .u64 (List.replicate 10 (0 : Int))⟩] []) ?_ (fun T42 => ?_)
    · rintro ej42 w ⟨g30, lr90, lr140, lr190, lr240, lr250, f4_42, f6_42, f45_42, f71_42, f97_42, f123_42, f129_42, f131_42, f133_42, f136_42, f138_42, f141_42, f143_42, f146_42, f148_42, hp⟩
      refine k_call [.agg (ints .u64 r25).toArray, .int .u64 (a0.getD 1 0), .int .u64 (a1.getD 3 0)] rfl (by kernel_rfl) (args3 f129_42 f131_42 f133_42) (field_wide_add_ok r25 (a0.getD 1 0) (a1.getD 3 0) lr250 _ (hp.toR (fun _ h => by cases h)) qr26) ?_
      rintro _ w' ⟨_, rfl, rfl, lr260, hpc⟩
      refine ⟨_, rfl, .inr (.of_below hpc.chg.to_below), ?_⟩; have hp := hp.below hpc.chg.to_below; clear hpc
      exact T41 _ _ ⟨g30, lr90, lr140, lr190, lr240, lr260, f4_42, f6_42, f45_42, f71_42, f97_42, f123_42, rfl, f136_42, f138_42, f141_42, f143_42, f146_42, f148_42, hp⟩
    refine k_join (p := (.ef 109 (.ef 114 (.ef 119 (.ef 124 (.ef 129 (.tp 130 (.ef 132 (.done))))))))) (A := fun ej wj => ∃ g30 : Nat, r9.length = 2 ∧ r14.length = 2 ∧ r19.length = 2 ∧ r24.length = 2 ∧ ej 4 = .pointer (some ⟨g3, 0, none⟩) ∧ ej 6 = .pointer (some ⟨g30, 0, none⟩) ∧ ej 45 = .agg (ints .u64 r9).toArray ∧ ej 71 = .agg (ints .u64 r14).toArray ∧ ej 97 = .agg (ints .u64 r19).toArray ∧ ej 123 = .agg (ints .u64 r24).toArray ∧ ej 124 = .agg (ints .u64 (List.replicate 2 (0 : Int))).toArray ∧ ej 126 = .int .u64 (a0.getD 0 0) ∧ ej 128 = .int .u64 (a1.getD 4 0) ∧ ej 131 = .int .u64 (a0.getD 1 0) ∧ ej 133 = .int .u64 (a1.getD 3 0) ∧ ej 136 = .int .u64 (a0.getD 2 0) ∧ ej 138 = .int .u64 (a1.getD 2 0) ∧ ej 141 = .int .u64 (a0.getD 3 0) ∧ ej 143 = .int .u64 (a1.getD 1 0) ∧ ej 146 = .int .u64 (a0.getD 4 0) ∧ ej 148 = .int .u64 (a1.getD 0 0) ∧ Hp w0 [] wj [⟨g1, 0, ints .u64 a0⟩, ⟨g2, 0, ints .u64 a1⟩, ⟨g3, 0, ints .u64 (List.replicate 5 (0 : Int))⟩, ⟨g4, 0, ints .u64 [0, (IntKind.u64.wrap (19 * (a1.getD 1 0))), (IntKind.u64.wrap (19 * (a1.getD 2 0))), (IntKind.u64.wrap (19 * (a1.getD 3 0))), (IntKind.u64.wrap (19 * (a1.getD 4 0)))]⟩, ⟨g30, 0, ints .u64 (List.replicate 10 (0 : Int))⟩] []) ?_ (fun T43 => ?_)
    · rintro ej43 w ⟨g30, lr90, lr140, lr190, lr240, f4_43, f6_43, f45_43, f71_43, f97_43, f123_43, f124_43, f126_43, f128_43, f131_43, f133_43, f136_43, f138_43, f141_43, f143_43, f146_43, f148_43, hp⟩
      refine k_call [.agg (ints .u64 (List.replicate 2 (0 : Int))).toArray, .int .u64 (a0.getD 0 0), .int .u64 (a1.getD 4 0)] rfl (by kernel_rfl) (args3 f124_43 f126_43 f128_43) (field_wide_add_ok (List.replicate 2 (0 : Int)) (a0.getD 0 0) (a1.getD 4 0) List.length_replicate _ (hp.toR (fun _ h => by cases h)) qr25) ?_
      rintro _ w' ⟨_, rfl, rfl, lr250, hpc⟩
      refine ⟨_, rfl, .inr (.of_below hpc.chg.to_below), ?_⟩; have hp := hp.below hpc.chg.to_below; clear hpc
      exact T42 _ _ ⟨g30, lr90, lr140, lr190, lr240, lr250, f4_43, f6_43, f45_43, f71_43, f97_43, f123_43, rfl, f131_43, f133_43, f136_43, f138_43, f141_43, f143_43, f146_43, f148_43, hp⟩
    refine k_join (p := (.ef 103 (.ef 109 (.ef 114 (.ef 119 (.ef 124 (.ef 129 (.tp 130 (.ef 132 (.done)))))))))) (A := fun ej wj => ∃ g30 : Nat, r9.length = 2 ∧ r14.length = 2 ∧ r19.length = 2 ∧ r23.length = 2 ∧ ej 4 = .pointer (some ⟨g3, 0, none⟩) ∧ ej 6 = .pointer (some ⟨g30, 0, none⟩) ∧ ej 45 = .agg (ints .u64 r9).toArray ∧ ej 71 = .agg (ints .u64 r14).toArray ∧ ej 97 = .agg (ints .u64 r19).toArray ∧ ej 118 = .agg (ints .u64 r23).toArray ∧ ej 120 = .int .u64 (a0.getD 4 0) ∧ ej 122 = .int .u64 ([0, (IntKind.u64.wrap (19 * (a1.getD 1 0))), (IntKind.u64.wrap (19 * (a1.getD 2 0))), (IntKind.u64.wrap (19 * (a1.getD 3 0))), (IntKind.u64.wrap (19 * (a1.getD 4 0)))].getD 4 0) ∧ ej 124 = .agg (ints .u64 (List.replicate 2 (0 : Int))).toArray ∧ ej 126 = .int .u64 (a0.getD 0 0) ∧ ej 128 = .int .u64 (a1.getD 4 0) ∧ ej 131 = .int .u64 (a0.getD 1 0) ∧ ej 133 = .int .u64 (a1.getD 3 0) ∧ ej 136 = .int .u64 (a0.getD 2 0) ∧ ej 138 = .int .u64 (a1.getD 2 0) ∧ ej 141 = .int .u64 (a0.getD 3 0) ∧ ej 143 = .int .u64 (a1.getD 1 0) ∧ ej 146 = .int .u64 (a0.getD 4 0) ∧ ej 148 = .int .u64 (a1.getD 0 0) ∧ Hp w0 [] wj [⟨g1, 0, ints .u64 a0⟩, ⟨g2, 0, ints .u64 a1⟩, ⟨g3, 0, ints .u64 (List.replicate 5 (0 : Int))⟩, ⟨g4, 0, ints .u64 [0, (IntKind.u64.wrap (19 * (a1.getD 1 0))), (IntKind.u64.wrap (19 * (a1.getD 2 0))), (IntKind.u64.wrap (19 * (a1.getD 3 0))), (IntKind.u64.wrap (19 * (a1.getD 4 0)))]⟩, ⟨g30, 0, ints .u64 (List.replicate 10 (0 : Int))⟩] []) ?_ (fun T44 => ?_)
    · rintro ej44 w ⟨g30, lr90, lr140, lr190, lr230, f4_44, f6_44, f45_44, f71_44, f97_44, f118_44, f120_44, f122_44, f124_44, f126_44, f128_44, f131_44, f133_44, f136_44, f138_44, f141_44, f143_44, f146_44, f148_44, hp⟩
      refine k_call [.agg (ints .u64 r23).toArray, .int .u64 (a0.getD 4 0), .int .u64 ([0, (IntKind.u64.wrap (19 * (a1.getD 1 0))), (IntKind.u64.wrap (19 * (a1.getD 2 0))), (IntKind.u64.wrap (19 * (a1.getD 3 0))), (IntKind.u64.wrap (19 * (a1.getD 4 0)))].getD 4 0)] rfl (by kernel_rfl) (args3 f118_44 f120_44 f122_44) (field_wide_add_ok r23 (a0.getD 4 0) ([0, (IntKind.u64.wrap (19 * (a1.getD 1 0))), (IntKind.u64.wrap (19 * (a1.getD 2 0))), (IntKind.u64.wrap (19 * (a1.getD 3 0))), (IntKind.u64.wrap (19 * (a1.getD 4 0)))].getD 4 0) lr230 _ (hp.toR (fun _ h => by cases h)) qr24) ?_
      rintro _ w' ⟨_, rfl, rfl, lr240, hpc⟩
      refine ⟨_, rfl, .inr (.of_below hpc.chg.to_below), ?_⟩; have hp := hp.below hpc.chg.to_below; clear hpc
      exact T43 _ _ ⟨g30, lr90, lr140, lr190, lr240, f4_44, f6_44, f45_44, f71_44, f97_44, rfl, f124_44, f126_44, f128_44, f131_44, f133_44, f136_44, f138_44, f141_44, f143_44, f146_44, f148_44, hp⟩
    refine k_join (p := (.ef 98 (.ef 103 (.ef 109 (.ef 114 (.ef 119 (.ef 124 (.ef 129 (.tp 130 (.ef 132 (.done))))))))))) (A := fun ej wj => ∃ g30 : Nat, r9.length = 2 ∧ r14.length = 2 ∧ r19.length = 2 ∧ r22.length = 2 ∧ ej 4 = .pointer (some ⟨g3, 0, none⟩) ∧ ej 6 = .pointer (some ⟨g30, 0, none⟩) ∧ ej 45 = .agg (ints .u64 r9).toArray ∧ ej 71 = .agg (ints .u64 r14).toArray ∧ ej 97 = .agg (ints .u64 r19).toArray ∧ ej 113 = .agg (ints .u64 r22).toArray ∧ ej 115 = .int .u64 (a0.getD 3 0) ∧ ej 117 = .int .u64 (a1.getD 0 0) ∧ ej 120 = .int .u64 (a0.getD 4 0) ∧ ej 122 = .int .u64 ([0, (IntKind.u64.wrap (19 * (a1.getD 1 0))), (IntKind.u64.wrap (19 * (a1.getD 2 0))), (IntKind.u64.wrap (19 * (a1.getD 3 0))), (IntKind.u64.wrap (19 * (a1.getD 4 0)))].getD 4 0) ∧ ej 124 = .agg (ints .u64 (List.replicate 2 (0 : Int))).toArray ∧ ej 126 = .int .u64 (a0.getD 0 0) ∧ ej 128 = .int .u64 (a1.getD 4 0) ∧ ej 131 = .int .u64 (a0.getD 1 0) ∧ ej 133 = .int .u64 (a1.getD 3 0) ∧ ej 136 = .int .u64 (a0.getD 2 0) ∧ ej 138 = .int .u64 (a1.getD 2 0) ∧ ej 141 = .int .u64 (a0.getD 3 0) ∧ ej 143 = .int .u64 (a1.getD 1 0) ∧ ej 146 = .int .u64 (a0.getD 4 0) ∧ ej 148 = .int .u64 (a1.getD 0 0) ∧ Hp w0 [] wj [⟨g1, 0, ints .u64 a0⟩, ⟨g2, 0, ints .u64 a1⟩, ⟨g3, 0, ints .u64 (List.replicate 5 (0 : Int))⟩, ⟨g4, 0, ints .u64 [0, (IntKind.u64.wrap (19 * (a1.getD 1 0))), (IntKind.u64.wrap (19 * (a1.getD 2 0))), (IntKind.u64.wrap (19 * (a1.getD 3 0))), (IntKind.u64.wrap (19 * (a1.getD 4 0)))]⟩, ⟨g30, 0, ints .u64 (List.replicate 10 (0 : Int))⟩] []) ?_ (fun T45 => ?_)
    · rintro ej45 w ⟨g30, lr90, lr140, lr190, lr220, f4_45, f6_45, f45_45, f71_45, f97_45, f113_45, f115_45, f117_45, f120_45, f122_45, f124_45, f126_45, f128_45, f131_45, f133_45, f136_45, f138_45, f141_45, f143_45, f146_45, f148_45, hp⟩
      refine k_call [.agg (ints .u64 r22).toArray, .int .u64 (a0.getD 3 0), .int .u64 (a1.getD 0 0)] rfl (by kernel_rfl) (args3 f113_45 f115_45 f117_45) (field_wide_add_ok r22 (a0.getD 3 0) (a1.getD 0 0) lr220 _ (hp.toR (fun _ h => by cases h)) qr23) ?_
      rintro _ w' ⟨_, rfl, rfl, lr230, hpc⟩
      refine ⟨_, rfl, .inr (.of_below hpc.chg.to_below), ?_⟩; have hp := hp.below hpc.chg.to_below; clear hpc
      exact T44 _ _ ⟨g30, lr90, lr140, lr190, lr230, f4_45, f6_45, f45_45, f71_45, f97_45, rfl, f120_45, f122_45, f124_45, f126_45, f128_45, f131_45, f133_45, f136_45, f138_45, f141_45, f143_45, f146_45, f148_45, hp⟩
    refine k_join (p := (.ef 93 (.ef 98 (.ef 103 (.ef 109 (.ef 114 (.ef 119 (.ef 124 (.ef 129 (.tp 130 (.ef 132 (.done)))))))))))) (A := fun ej wj => ∃ g30 : Nat, r9.length = 2 ∧ r14.length = 2 ∧ r19.length = 2 ∧ r21.length = 2 ∧ ej 4 = .pointer (some ⟨g3, 0, none⟩) ∧ ej 6 = .pointer (some ⟨g30, 0, none⟩) ∧ ej 45 = .agg (ints .u64 r9).toArray ∧ ej 71 = .agg (ints .u64 r14).toArray ∧ ej 97 = .agg (ints .u64 r19).toArray ∧ ej 108 = .agg (ints .u64 r21).toArray ∧ ej 110 = .int .u64 (a0.getD 2 0) ∧ ej 112 = .int .u64 (a1.getD 1 0) ∧ ej 115 = .int .u64 (a0.getD 3 0) ∧ ej 117 = .int .u64 (a1.getD 0 0) ∧ ej 120 = .int .u64 (a0.getD 4 0) ∧ ej 122 = .int .u64 ([0, (IntKind.u64.wrap (19 * (a1.getD 1 0))), (IntKind.u64.wrap (19 * (a1.getD 2 0))), (IntKind.u64.wrap (19 * (a1.getD 3 0))), (IntKind.u64.wrap (19 * (a1.getD 4 0)))].getD 4 0) ∧ ej 124 = .agg (ints .u64 (List.replicate 2 (0 : Int))).toArray ∧ ej 126 = .int .u64 (a0.getD 0 0) ∧ ej 128 = .int .u64 (a1.getD 4 0) ∧ ej 131 = .int .u64 (a0.getD 1 0) ∧ ej 133 = .int .u64 (a1.getD 3 0) ∧ ej 136 = .int .u64 (a0.getD 2 0) ∧ ej 138 = .int .u64 (a1.getD 2 0) ∧ ej 141 = .int .u64 (a0.getD 3 0) ∧ ej 143 = .int .u64 (a1.getD 1 0) ∧ ej 146 = .int .u64 (a0.getD 4 0) ∧ ej 148 = .int .u64 (a1.getD 0 0) ∧ Hp w0 [] wj [⟨g1, 0, ints .u64 a0⟩, ⟨g2, 0, ints .u64 a1⟩, ⟨g3, 0, ints .u64 (List.replicate 5 (0 : Int))⟩, ⟨g4, 0, ints .u64 [0, (IntKind.u64.wrap (19 * (a1.getD 1 0))), (IntKind.u64.wrap (19 * (a1.getD 2 0))), (IntKind.u64.wrap (19 * (a1.getD 3 0))), (IntKind.u64.wrap (19 * (a1.getD 4 0)))]⟩, ⟨g30, 0, ints .u64 (List.replicate 10 (0 : Int))⟩] []) ?_ (fun T46 => ?_)
    · rintro ej46 w ⟨g30, lr90, lr140, lr190, lr210, f4_46, f6_46, f45_46, f71_46, f97_46, f108_46, f110_46, f112_46, f115_46, f117_46, f120_46, f122_46, f124_46, f126_46, f128_46, f131_46, f133_46, f136_46, f138_46, f141_46, f143_46, f146_46, f148_46, hp⟩
      refine k_call [.agg (ints .u64 r21).toArray, .int .u64 (a0.getD 2 0), .int .u64 (a1.getD 1 0)] rfl (by kernel_rfl) (args3 f108_46 f110_46 f112_46) (field_wide_add_ok r21 (a0.getD 2 0) (a1.getD 1 0) lr210 _ (hp.toR (fun _ h => by cases h)) qr22) ?_
      rintro _ w' ⟨_, rfl, rfl, lr220, hpc⟩
      refine ⟨_, rfl, .inr (.of_below hpc.chg.to_below), ?_⟩; have hp := hp.below hpc.chg.to_below; clear hpc
      exact T45 _ _ ⟨g30, lr90, lr140, lr190, lr220, f4_46, f6_46, f45_46, f71_46, f97_46, rfl, f115_46, f117_46, f120_46, f122_46, f124_46, f126_46, f128_46, f131_46, f133_46, f136_46, f138_46, f141_46, f143_46, f146_46, f148_46, hp⟩
    refine k_join (p := (.ef 88 (.ef 93 (.ef 98 (.ef 103 (.ef 109 (.ef 114 (.ef 119 (.ef 124 (.ef 129 (.tp 130 (.ef 132 (.done))))))))))))) (A := fun ej wj => ∃ g30 : Nat, r9.length = 2 ∧ r14.length = 2 ∧ r19.length = 2 ∧ r20.length = 2 ∧ ej 4 = .pointer (some ⟨g3, 0, none⟩) ∧ ej 6 = .pointer (some ⟨g30, 0, none⟩) ∧ ej 45 = .agg (ints .u64 r9).toArray ∧ ej 71 = .agg (ints .u64 r14).toArray ∧ ej 97 = .agg (ints .u64 r19).toArray ∧ ej 103 = .agg (ints .u64 r20).toArray ∧ ej 105 = .int .u64 (a0.getD 1 0) ∧ ej 107 = .int .u64 (a1.getD 2 0) ∧ ej 110 = .int .u64 (a0.getD 2 0) ∧ ej 112 = .int .u64 (a1.getD 1 0) ∧ ej 115 = .int .u64 (a0.getD 3 0) ∧ ej 117 = .int .u64 (a1.getD 0 0) ∧ ej 120 = .int .u64 (a0.getD 4 0) ∧ ej 122 = .int .u64 ([0, (IntKind.u64.wrap (19 * (a1.getD 1 0))), (IntKind.u64.wrap (19 * (a1.getD 2 0))), (IntKind.u64.wrap (19 * (a1.getD 3 0))), (IntKind.u64.wrap (19 * (a1.getD 4 0)))].getD 4 0) ∧ ej 124 = .agg (ints .u64 (List.replicate 2 (0 : Int))).toArray ∧ ej 126 = .int .u64 (a0.getD 0 0) ∧ ej 128 = .int .u64 (a1.getD 4 0) ∧ ej 131 = .int .u64 (a0.getD 1 0) ∧ ej 133 = .int .u64 (a1.getD 3 0) ∧ ej 136 = .int .u64 (a0.getD 2 0) ∧ ej 138 = .int .u64 (a1.getD 2 0) ∧ ej 141 = .int .u64 (a0.getD 3 0) ∧ ej 143 = .int .u64 (a1.getD 1 0) ∧ ej 146 = .int .u64 (a0.getD 4 0) ∧ ej 148 = .int .u64 (a1.getD 0 0) ∧ Hp w0 [] wj [⟨g1, 0, ints .u64 a0⟩, ⟨g2, 0, ints .u64 a1⟩, ⟨g3, 0, ints .u64 (List.replicate 5 (0 : Int))⟩, ⟨g4, 0, ints .u64 [0, (IntKind.u64.wrap (19 * (a1.getD 1 0))), (IntKind.u64.wrap (19 * (a1.getD 2 0))), (IntKind.u64.wrap (19 * (a1.getD 3 0))), (IntKind.u64.wrap (19 * (a1.getD 4 0)))]⟩, ⟨g30, 0, ints .u64 (List.replicate 10 (0 : Int))⟩] []) ?_ (fun T47 => ?_)
    · rintro ej47 w ⟨g30, lr90, lr140, lr190, lr200, f4_47, f6_47, f45_47, f71_47, f97_47, f103_47, f105_47, f107_47, f110_47, f112_47, f115_47, f117_47, f120_47, f122_47, f124_47, f126_47, f128_47, f131_47, f133_47, f136_47, f138_47, f141_47, f143_47, f146_47, f148_47, hp⟩
      refine k_call [.agg (ints .u64 r20).toArray, .int .u64 (a0.getD 1 0), .int .u64 (a1.getD 2 0)] rfl (by kernel_rfl) (args3 f103_47 f105_47 f107_47) (field_wide_add_ok r20 (a0.getD 1 0) (a1.getD 2 0) lr200 _ (hp.toR (fun _ h => by cases h)) qr21) ?_
      rintro _ w' ⟨_, rfl, rfl, lr210, hpc⟩
      refine ⟨_, rfl, .inr (.of_below hpc.chg.to_below), ?_⟩; have hp := hp.below hpc.chg.to_below; clear hpc
      exact T46 _ _ ⟨g30, lr90, lr140, lr190, lr210, f4_47, f6_47, f45_47, f71_47, f97_47, rfl, f110_47, f112_47, f115_47, f117_47, f120_47, f122_47, f124_47, f126_47, f128_47, f131_47, f133_47, f136_47, f138_47, f141_47, f143_47, f146_47, f148_47, hp⟩
    refine k_join (p := (.ef 83 (.ef 88 (.ef 93 (.ef 98 (.ef 103 (.ef 109 (.ef 114 (.ef 119 (.ef 124 (.ef 129 (.tp 130 (.ef 132 (.done)))))))))))))) (A := fun ej wj => ∃ g30 : Nat, r9.length = 2 ∧ r14.length = 2 ∧ r19.length = 2 ∧ ej 4 = .pointer (some ⟨g3, 0, none⟩) ∧ ej 6 = .pointer (some ⟨g30, 0, none⟩) ∧ ej 45 = .agg (ints .u64 r9).toArray ∧ ej 71 = .agg (ints .u64 r14).toArray ∧ ej 97 = .agg (ints .u64 r19).toArray ∧ ej 98 = .agg (ints .u64 (List.replicate 2 (0 : Int))).toArray ∧ ej 100 = .int .u64 (a0.getD 0 0) ∧ ej 102 = .int .u64 (a1.getD 3 0) ∧ ej 105 = .int .u64 (a0.getD 1 0) ∧ ej 107 = .int .u64 (a1.getD 2 0) ∧ ej 110 = .int .u64 (a0.getD 2 0) ∧ ej 112 = .int .u64 (a1.getD 1 0) ∧ ej 115 = .int .u64 (a0.getD 3 0) ∧ ej 117 = .int .u64 (a1.getD 0 0) ∧ ej 120 = .int .u64 (a0.getD 4 0) ∧ ej 122 = .int .u64 ([0, (IntKind.u64.wrap (19 * (a1.getD 1 0))), (IntKind.u64.wrap (19 * (a1.getD 2 0))), (IntKind.u64.wrap (19 * (a1.getD 3 0))), (IntKind.u64.wrap (19 * (a1.getD 4 0)))].getD 4 0) ∧ ej 124 = .agg (ints .u64 (List.replicate 2 (0 : Int))).toArray ∧ ej 126 = .int .u64 (a0.getD 0 0) ∧ ej 128 = .int .u64 (a1.getD 4 0) ∧ ej 131 = .int .u64 (a0.getD 1 0) ∧ ej 133 = .int .u64 (a1.getD 3 0) ∧ ej 136 = .int .u64 (a0.getD 2 0) ∧ ej 138 = .int .u64 (a1.getD 2 0) ∧ ej 141 = .int .u64 (a0.getD 3 0) ∧ ej 143 = .int .u64 (a1.getD 1 0) ∧ ej 146 = .int .u64 (a0.getD 4 0) ∧ ej 148 = .int .u64 (a1.getD 0 0) ∧ Hp w0 [] wj [⟨g1, 0, ints .u64 a0⟩, ⟨g2, 0, ints .u64 a1⟩, ⟨g3, 0, ints .u64 (List.replicate 5 (0 : Int))⟩, ⟨g4, 0, ints .u64 [0, (IntKind.u64.wrap (19 * (a1.getD 1 0))), (IntKind.u64.wrap (19 * (a1.getD 2 0))), (IntKind.u64.wrap (19 * (a1.getD 3 0))), (IntKind.u64.wrap (19 * (a1.getD 4 0)))]⟩, ⟨g30, 0, ints .u64 (List.replicate 10 (0 : Int))⟩] []) ?_ (fun T48 => ?_)
    · rintro ej48 w ⟨g30, lr90, lr140, lr190, f4_48, f6_48, f45_48, f71_48, f97_48, f98_48, f100_48, f102_48, f105_48, f107_48, f110_48, f112_48, f115_48, f117_48, f120_48, f122_48, f124_48, f126_48, f128_48, f131_48, f133_48, f136_48, f138_48, f141_48, f143_48, f146_48, f148_48, hp⟩
      refine k_call [.agg (ints .u64 (List.replicate 2 (0 : Int))).toArray, .int .u64 (a0.getD 0 0), .int .u64 (a1.getD 3 0)] rfl (by kernel_rfl) (args3 f98_48 f100_48 f102_48) (field_wide_add_ok (List.replicate 2 (0 : Int)) (a0.getD 0 0) (a1.getD 3 0) List.length_replicate _ (hp.toR (fun _ h => by cases h)) qr20) ?_
      rintro _ w' ⟨_, rfl, rfl, lr200, hpc⟩
      refine ⟨_, rfl, .inr (.of_below hpc.chg.to_below), ?_⟩; have hp := hp.below hpc.chg.to_below; clear hpc
      exact T47 _ _ ⟨g30, lr90, lr140, lr190, lr200, f4_48, f6_48, f45_48, f71_48, f97_48, rfl, f105_48, f107_48, f110_48, f112_48, f115_48, f117_48, f120_48, f122_48, f124_48, f126_48, f128_48, f131_48, f133_48, f136_48, f138_48, f141_48, f143_48, f146_48, f148_48, hp⟩
    refine k_join (p := (.ef 77 (.ef 83 (.ef 88 (.ef 93 (.ef 98 (.ef 103 (.ef 109 (.ef 114 (.ef 119 (.ef 124 (.ef 129 (.tp 130 (.ef 132 (.done))))))))))))))) (A := fun ej wj => ∃ g30 : Nat, r9.length = 2 ∧ r14.length = 2 ∧ r18.length = 2 ∧ ej 4 = .pointer (some ⟨g3, 0, none⟩) ∧ ej 6 = .pointer (some ⟨g30, 0, none⟩) ∧ ej 45 = .agg (ints .u64 r9).toArray ∧ ej 71 = .agg (ints .u64 r14).toArray ∧ ej 92 = .agg (ints .u64 r18).toArray ∧ ej 94 = .int .u64 (a0.getD 4 0) ∧ ej 96 = .int .u64 ([0, (IntKind.u64.wrap (19 * (a1.getD 1 0))), (IntKind.u64.wrap (19 * (a1.getD 2 0))), (IntKind.u64.wrap (19 * (a1.getD 3 0))), (IntKind.u64.wrap (19 * (a1.getD 4 0)))].getD 3 0) ∧ ej 98 = .agg (ints .u64 (List.replicate 2 (0 : Int))).toArray ∧ ej 100 = .int .u64 (a0.getD 0 0) ∧ ej 102 = .int .u64 (a1.getD 3 0) ∧ ej 105 = .int .u64 (a0.getD 1 0) ∧ ej 107 = .int .u64 (a1.getD 2 0) ∧ ej 110 = .int .u64 (a0.getD 2 0) ∧ ej 112 = .int .u64 (a1.getD 1 0) ∧ ej 115 = .int .u64 (a0.getD 3 0) ∧ ej 117 = .int .u64 (a1.getD 0 0) ∧ ej 120 = .int .u64 (a0.getD 4 0) ∧ ej 122 = .int .u64 ([0, (IntKind.u64.wrap (19 * (a1.getD 1 0))), (IntKind.u64.wrap (19 * (a1.getD 2 0))), (IntKind.u64.wrap (19 * (a1.getD 3 0))), (IntKind.u64.wrap (19 * (a1.getD 4 0)))].getD 4 0) ∧ ej 124 = .agg (ints .u64 (List.replicate 2 (0 : Int))).toArray ∧ ej 126 = .int .u64 (a0.getD 0 0) ∧ ej 128 = .int .u64 (a1.getD 4 0) ∧ ej 131 = .int .u64 (a0.getD 1 0) ∧ ej 133 = .int .u64 (a1.getD 3 0) ∧ ej 136 = .int .u64 (a0.getD 2 0) ∧ ej 138 = .int .u64 (a1.getD 2 0) ∧ ej 141 = .int .u64 (a0.getD 3 0) ∧ ej 143 = .int .u64 (a1.getD 1 0) ∧ ej 146 = .int .u64 (a0.getD 4 0) ∧ ej 148 = .int .u64 (a1.getD 0 0) ∧ Hp w0 [] wj [⟨g1, 0, ints .u64 a0⟩, ⟨g2, 0, ints .u64 a1⟩, ⟨g3, 0, ints .u64 (List.replicate 5 (0 : Int))⟩, ⟨g4, 0, ints .u64 [0, (IntKind.u64.wrap (19 * (a1.getD 1 0))), (IntKind.u64.wrap (19 * (a1.getD 2 0))), (IntKind.u64.wrap (19 * (a1.getD 3 0))), (IntKind.u64.wrap (19 * (a1.getD 4 0)))]⟩, ⟨g30, 0, ints .u64 (List.replicate 10 (0 : Int))⟩] []) ?_ (fun T49 => ?_)
    · rintro ej49 w ⟨g30, lr90, lr140, lr180, f4_49, f6_49, f45_49, f71_49, f92_49, f94_49, f96_49, f98_49, f100_49, f102_49, f105_49, f107_49, f110_49, f112_49, f115_49, f117_49, f120_49, f122_49, f124_49, f126_49, f128_49, f131_49, f133_49, f136_49, f138_49, f141_49, f143_49, f146_49, f148_49, hp⟩
      refine k_call [.agg (ints .u64 r18).toArray, .int .u64 (a0.getD 4 0), .int .u64 ([0, (IntKind.u64.wrap (19 * (a1.getD 1 0))), (IntKind.u64.wrap (19 * (a1.getD 2 0))), (IntKind.u64.wrap (19 * (a1.getD 3 0))), (IntKind.u64.wrap (19 * (a1.getD 4 0)))].getD 3 0)] rfl (by kernel_rfl) (args3 f92_49 f94_49 f96_49) (field_wide_add_ok r18 (a0.getD 4 0) ([0, (IntKind.u64.wrap (19 * (a1.getD 1 0))), (IntKind.u64.wrap (19 * (a1.getD 2 0))), (IntKind.u64.wrap (19 * (a1.getD 3 0))), (IntKind.u64.wrap (19 * (a1.getD 4 0)))].getD 3 0) lr180 _ (hp.toR (fun _ h => by cases h)) qr19) ?_
      rintro _ w' ⟨_, rfl, rfl, lr190, hpc⟩
      refine ⟨_, rfl, .inr (.of_below hpc.chg.to_below), ?_⟩; have hp := hp.below hpc.chg.to_below; clear hpc
      exact T48 _ _ ⟨g30, lr90, lr140, lr190, f4_49, f6_49, f45_49, f71_49, rfl, f98_49, f100_49, f102_49, f105_49, f107_49, f110_49, f112_49, f115_49, f117_49, f120_49, f122_49, f124_49, f126_49, f128_49, f131_49, f133_49, f136_49, f138_49, f141_49, f143_49, f146_49, f148_49, hp⟩
    refine k_join (p := (.ef 72 (.ef 77 (.ef 83 (.ef 88 (.ef 93 (.ef 98 (.ef 103 (.ef 109 (.ef 114 (.ef 119 (.ef 124 (.ef 129 (.tp 130 (.ef 132 (.done)))))))))))))))) (A := fun ej wj => ∃ g30 : Nat, r9.length = 2 ∧ r14.length = 2 ∧ r17.length = 2 ∧ ej 4 = .pointer (some ⟨g3, 0, none⟩) ∧ ej 6 = .pointer (some ⟨g30, 0, none⟩) ∧ ej 45 = .agg (ints .u64 r9).toArray ∧ ej 71 = .agg (ints .u64 r14).toArray ∧ ej 87 = .agg (ints .u64 r17).toArray ∧ ej 89 = .int .u64 (a0.getD 3 0) ∧ ej 91 = .int .u64 ([0, (IntKind.u64.wrap (19 * (a1.getD 1 0))), (IntKind.u64.wrap (19 * (a1.getD 2 0))), (IntKind.u64.wrap (19 * (a1.getD 3 0))), (IntKind.u64.wrap (19 * (a1.getD 4 0)))].getD 4 0) ∧ ej 94 = .int .u64 (a0.getD 4 0) ∧ ej 96 = .int .u64 ([0, (IntKind.u64.wrap (19 * (a1.getD 1 0))), (IntKind.u64.wrap (19 * (a1.getD 2 0))), (IntKind.u64.wrap (19 * (a1.getD 3 0))), (IntKind.u64.wrap (19 * (a1.getD 4 0)))].getD 3 0) ∧ ej 98 = .agg (ints .u64 (List.replicate 2 (0 : Int))).toArray ∧ ej 100 = .int .u64 (a0.getD 0 0) ∧ ej 102 = .int .u64 (a1.getD 3 0) ∧ ej 105 = .int .u64 (a0.getD 1 0) ∧ ej 107 = .int .u64 (a1.getD 2 0) ∧ ej 110 = .int .u64 (a0.getD 2 0) ∧ ej 112 = .int .u64 (a1.getD 1 0) ∧ ej 115 = .int .u64 (a0.getD 3 0) ∧ ej 117 = .int .u64 (a1.getD 0 0) ∧ ej 120 = .int .u64 (a0.getD 4 0) ∧ ej 122 = .int .u64 ([0, (IntKind.u64.wrap (19 * (a1.getD 1 0))), (IntKind.u64.wrap (19 * (a1.getD 2 0))), (IntKind.u64.wrap (19 * (a1.getD 3 0))), (IntKind.u64.wrap (19 * (a1.getD 4 0)))].getD 4 0) ∧ ej 124 = .agg (ints .u64 (List.replicate 2 (0 : Int))).toArray ∧ ej 126 = .int .u64 (a0.getD 0 0) ∧ ej 128 = .int .u64 (a1.getD 4 0) ∧ ej 131 = .int .u64 (a0.getD 1 0) ∧ ej 133 = .int .u64 (a1.getD 3 0) ∧ ej 136 = .int .u64 (a0.getD 2 0) ∧ ej 138 = .int .u64 (a1.getD 2 0) ∧ ej 141 = .int .u64 (a0.getD 3 0) ∧ ej 143 = .int .u64 (a1.getD 1 0) ∧ ej 146 = .int .u64 (a0.getD 4 0) ∧ ej 148 = .int .u64 (a1.getD 0 0) ∧ Hp w0 [] wj [⟨g1, 0, ints .u64 a0⟩, ⟨g2, 0, ints .u64 a1⟩, ⟨g3, 0, ints .u64 (List.replicate 5 (0 : Int))⟩, ⟨g4, 0, ints .u64 [0, (IntKind.u64.wrap (19 * (a1.getD 1 0))), (IntKind.u64.wrap (19 * (a1.getD 2 0))), (IntKind.u64.wrap (19 * (a1.getD 3 0))), (IntKind.u64.wrap (19 * (a1.getD 4 0)))]⟩, ⟨g30, 0, ints .u64 (List.replicate 10 (0 : Int))⟩] []) ?_ (fun T50 => ?_)
    · rintro ej50 w ⟨g30, lr90, lr140, lr170, f4_50, f6_50, f45_50, f71_50, f87_50, f89_50, f91_50, f94_50, f96_50, f98_50, f100_50, f102_50, f105_50, f107_50, f110_50, f112_50, f115_50, f117_50, f120_50, f122_50, f124_50, f126_50, f128_50, f131_50, f133_50, f136_50, f138_50, f141_50, f143_50, f146_50, f148_50, hp⟩
      refine k_call [.agg (ints .u64 r17).toArray, .int .u64 (a0.getD 3 0), .int .u64 ([0, (IntKind.u64.wrap (19 * (a1.getD 1 0))), (IntKind.u64.wrap (19 * (a1.getD 2 0))), (IntKind.u64.wrap (19 * (a1.getD 3 0))), (IntKind.u64.wrap (19 * (a1.getD 4 0)))].getD 4 0)] rfl (by kernel_rfl) (args3 f87_50 f89_50 f91_50) (field_wide_add_ok r17 (a0.getD 3 0) ([0, (IntKind.u64.wrap (19 * (a1.getD 1 0))), (IntKind.u64.wrap (19 * (a1.getD 2 0))), (IntKind.u64.wrap (19 * (a1.getD 3 0))), (IntKind.u64.wrap (19 * (a1.getD 4 0)))].getD 4 0) lr170 _ (hp.toR (fun _ h => by cases h)) qr18) ?_
      rintro _ w' ⟨_, rfl, rfl, lr180, hpc⟩
      refine ⟨_, rfl, .inr (.of_below hpc.chg.to_below), ?_⟩; have hp := hp.below hpc.chg.to_below; clear hpc
      exact T49 _ _ ⟨g30, lr90, lr140, lr180, f4_50, f6_50, f45_50, f71_50, rfl, f94_50, f96_50, f98_50, f100_50, f102_50, f105_50, f107_50, f110_50, f112_50, f115_50, f117_50, f120_50, f122_50, f124_50, f126_50, f128_50, f131_50, f133_50, f136_50, f138_50, f141_50, f143_50, f146_50, f148_50, hp⟩
    refine k_join (p := (.ef 67 (.ef 72 (.ef 77 (.ef 83 (.ef 88 (.ef 93 (.ef 98 (.ef 103 (.ef 109 (.ef 114 (.ef 119 (.ef 124 (.ef 129 (.tp 130 (.ef 132 (.done))))))))))))))))) (A := fun ej wj => ∃ g30 : Nat, r9.length = 2 ∧ r14.length = 2 ∧ r16.length = 2 ∧ ej 4 = .pointer (some ⟨g3, 0, none⟩) ∧ ej 6 = .pointer (some ⟨g30, 0, none⟩) ∧ ej 45 = .agg (ints .u64 r9).toArray ∧ ej 71 = .agg (ints .u64 r14).toArray ∧ ej 82 = .agg (ints .u64 r16).toArray ∧ ej 84 = .int .u64 (a0.getD 2 0) ∧ ej 86 = .int .u64 (a1.getD 0 0) ∧ ej 89 = .int .u64 (a0.getD 3 0) ∧ ej 91 = .int .u64 ([0, (IntKind.u64.wrap (19 * (a1.getD 1 0))), (IntKind.u64.wrap (19 * (a1.getD 2 0))), (IntKind.u64.wrap (19 * (a1.getD 3 0))), (IntKind.u64.wrap (19 * (a1.getD 4 0)))].getD 4 0) ∧ ej 94 = .int .u64 (a0.getD 4 0) ∧ ej 96 = .int .u64 ([0, (IntKind.u64.wrap (19 * (a1.getD 1 0))), (IntKind.u64.wrap (19 * (a1.getD 2 0))), (IntKind.u64.wrap (19 * (a1.getD 3 0))), (IntKind.u64.wrap (19 * (a1.getD 4 0)))].getD 3 0) ∧ ej 98 = .agg (ints .u64 (List.replicate 2 (0 : Int))).toArray ∧ ej 100 = .int .u64 (a0.getD 0 0) ∧ ej 102 = .int .u64 (a1.getD 3 0) ∧ ej 105 = .int .u64 (a0.getD 1 0) ∧ ej 107 = .int .u64 (a1.getD 2 0) ∧ ej 110 = .int .u64 (a0.getD 2 0) ∧ ej 112 = .int .u64 (a1.getD 1 0) ∧ ej 115 = .int .u64 (a0.getD 3 0) ∧ ej 117 = .int .u64 (a1.getD 0 0) ∧ ej 120 = .int .u64 (a0.getD 4 0) ∧ ej 122 = .int .u64 ([0, (IntKind.u64.wrap (19 * (a1.getD 1 0))), (IntKind.u64.wrap (19 * (a1.getD 2 0))), (IntKind.u64.wrap (19 * (a1.getD 3 0))), (IntKind.u64.wrap (19 * (a1.getD 4 0)))].getD 4 0) ∧ ej 124 = .agg (ints .u64 (List.replicate 2 (0 : Int))).toArray ∧ ej 126 = .int .u64 (a0.getD 0 0) ∧ ej 128 = .int .u64 (a1.getD 4 0) ∧ ej 131 = .int .u64 (a0.getD 1 0) ∧ ej 133 = .int .u64 (a1.getD 3 0) ∧ ej 136 = .int .u64 (a0.getD 2 0) ∧ ej 138 = .int .u64 (a1.getD 2 0) ∧ ej 141 = .int .u64 (a0.getD 3 0) ∧ ej 143 = .int .u64 (a1.getD 1 0) ∧ ej 146 = .int .u64 (a0.getD 4 0) ∧ ej 148 = .int .u64 (a1.getD 0 0) ∧ Hp w0 [] wj [⟨g1, 0, ints .u64 a0⟩, ⟨g2, 0, ints .u64 a1⟩, ⟨g3, 0, ints .u64 (List.replicate 5 (0 : Int))⟩, ⟨g4, 0, ints .u64 [0, (IntKind.u64.wrap (19 * (a1.getD 1 0))), (IntKind.u64.wrap (19 * (a1.getD 2 0))), (IntKind.u64.wrap (19 * (a1.getD 3 0))), (IntKind.u64.wrap (19 * (a1.getD 4 0)))]⟩, ⟨g30, 0, ints .u64 (List.replicate 10 (0 : Int))⟩] []) ?_ (fun T51 => ?_)
    · rintro ej51 w ⟨g30, lr90, lr140, lr160, f4_51, f6_51, f45_51, f71_51, f82_51, f84_51, f86_51, f89_51, f91_51, f94_51, f96_51, f98_51, f100_51, f102_51, f105_51, f107_51, f110_51, f112_51, f115_51, f117_51, f120_51, f122_51, f124_51, f126_51, f128_51, f131_51, f133_51, f136_51, f138_51, f141_51, f143_51, f146_51, f148_51, hp⟩
      refine k_call [.agg (ints .u64 r16).toArray, .int .u64 (a0.getD 2 0), .int .u64 (a1.getD 0 0)] rfl (by kernel_rfl) (args3 f82_51 f84_51 f86_51) (field_wide_add_ok r16 (a0.getD 2 0) (a1.getD 0 0) lr160 _ (hp.toR (fun _ h => by cases h)) qr17) ?_
      rintro _ w' ⟨_, rfl, rfl, lr170, hpc⟩
      refine ⟨_, rfl, .inr (.of_below hpc.chg.to_below), ?_⟩; have hp := hp.below hpc.chg.to_below; clear hpc
      exact T50 _ _ ⟨g30, lr90, lr140, lr170, f4_51, f6_51, f45_51, f71_51, rfl, f89_51, f91_51, f94_51, f96_51, f98_51, f100_51, f102_51, f105_51, f107_51, f110_51, f112_51, f115_51, f117_51, f120_51, f122_51, f124_51, f126_51, f128_51, f131_51, f133_51, f136_51, f138_51, f141_51, f143_51, f146_51, f148_51, hp⟩
    refine k_join (p := (.ef 62 (.ef 67 (.ef 72 (.ef 77 (.ef 83 (.ef 88 (.ef 93 (.ef 98 (.ef 103 (.ef 109 (.ef 114 (.ef 119 (.ef 124 (.ef 129 (.tp 130 (.ef 132 (.done)))))))))))))))))) (A := fun ej wj => ∃ g30 : Nat, r9.length = 2 ∧ r14.length = 2 ∧ r15.length = 2 ∧ ej 4 = .pointer (some ⟨g3, 0, none⟩) ∧ ej 6 = .pointer (some ⟨g30, 0, none⟩) ∧ ej 45 = .agg (ints .u64 r9).toArray ∧ ej 71 = .agg (ints .u64 r14).toArray ∧ ej 77 = .agg (ints .u64 r15).toArray ∧ ej 79 = .int .u64 (a0.getD 1 0) ∧ ej 81 = .int .u64 (a1.getD 1 0) ∧ ej 84 = .int .u64 (a0.getD 2 0) ∧ ej 86 = .int .u64 (a1.getD 0 0) ∧ ej 89 = .int .u64 (a0.getD 3 0) ∧ ej 91 = .int .u64 ([0, (IntKind.u64.wrap (19 * (a1.getD 1 0))), (IntKind.u64.wrap (19 * (a1.getD 2 0))), (IntKind.u64.wrap (19 * (a1.getD 3 0))), (IntKind.u64.wrap (19 * (a1.getD 4 0)))].getD 4 0) ∧ ej 94 = .int .u64 (a0.getD 4 0) ∧ ej 96 = .int .u64 ([0, (IntKind.u64.wrap (19 * (a1.getD 1 0))), (IntKind.u64.wrap (19 * (a1.getD 2 0))), (IntKind.u64.wrap (19 * (a1.getD 3 0))), (IntKind.u64.wrap (19 * (a1.getD 4 0)))].getD 3 0) ∧ ej 98 = .agg (ints .u64 (List.replicate 2 (0 : Int))).toArray ∧ ej 100 = .int .u64 (a0.getD 0 0) ∧ ej 102 = .int .u64 (a1.getD 3 0) ∧ ej 105 = .int .u64 (a0.getD 1 0) ∧ ej 107 = .int .u64 (a1.getD 2 0) ∧ ej 110 = .int .u64 (a0.getD 2 0) ∧ ej 112 = .int .u64 (a1.getD 1 0) ∧ ej 115 = .int .u64 (a0.getD 3 0) ∧ ej 117 = .int .u64 (a1.getD 0 0) ∧ ej 120 = .int .u64 (a0.getD 4 0) ∧ ej 122 = .int .u64 ([0, (IntKind.u64.wrap (19 * (a1.getD 1 0))), (IntKind.u64.wrap (19 * (a1.getD 2 0))), (IntKind.u64.wrap (19 * (a1.getD 3 0))), (IntKind.u64.wrap (19 * (a1.getD 4 0)))].getD 4 0) ∧ ej 124 = .agg (ints .u64 (List.replicate 2 (0 : Int))).toArray ∧ ej 126 = .int .u64 (a0.getD 0 0) ∧ ej 128 = .int .u64 (a1.getD 4 0) ∧ ej 131 = .int .u64 (a0.getD 1 0) ∧ ej 133 = .int .u64 (a1.getD 3 0) ∧ ej 136 = .int .u64 (a0.getD 2 0) ∧ ej 138 = .int .u64 (a1.getD 2 0) ∧ ej 141 = .int .u64 (a0.getD 3 0) ∧ ej 143 = .int .u64 (a1.getD 1 0) ∧ ej 146 = .int .u64 (a0.getD 4 0) ∧ ej 148 = .int .u64 (a1.getD 0 0) ∧ Hp w0 [] wj [⟨g1, 0, ints .u64 a0⟩, ⟨g2, 0, ints .u64 a1⟩, ⟨g3, 0, ints .u64 (List.replicate 5 (0 : Int))⟩, ⟨g4, 0, ints .u64 [0, (IntKind.u64.wrap (19 * (a1.getD 1 0))), (IntKind.u64.wrap (19 * (a1.getD 2 0))), (IntKind.u64.wrap (19 * (a1.getD 3 0))), (IntKind.u64.wrap (19 * (a1.getD 4 0)))]⟩, ⟨g30, 0, ints .u64 (List.replicate 10 (0 : Int))⟩] []) ?_ (fun T52 => ?_)
    · rintro ej52 w ⟨g30, lr90, lr140, lr150, f4_52, f6_52, f45_52, f71_52, f77_52, f79_52, f81_52, f84_52, f86_52, f89_52, f91_52, f94_52, f96_52, f98_52, f100_52, f102_52, f105_52, f107_52, f110_52, f112_52, f115_52, f117_52, f120_52, f122_52, f124_52, f126_52, f128_52, f131_52, f133_52, f136_52, f138_52, f141_52, f143_52, f146_52, f148_52, hp⟩
      refine k_call [.agg (ints .u64 r15).toArray, .int .u64 (a0.getD 1 0), .int .u64 (a1.getD 1 0)] rfl (by kernel_rfl) (args3 f77_52 f79_52 f81_52) (field_wide_add_ok r15 (a0.getD 1 0) (a1.getD 1 0) lr150 _ (hp.toR (fun _ h => by cases h)) qr16) ?_
      rintro _ w' ⟨_, rfl, rfl, lr160, hpc⟩
      refine ⟨_, rfl, .inr (.of_below hpc.chg.to_below), ?_⟩; have hp := hp.below hpc.chg.to_below; clear hpc
      exact T51 _ _ ⟨g30, lr90, lr140, lr160, f4_52, f6_52, f45_52, f71_52, rfl, f84_52, f86_52, f89_52, f91_52, f94_52, f96_52, f98_52, f100_52, f102_52, f105_52, f107_52, f110_52, f112_52, f115_52, f117_52, f120_52, f122_52, f124_52, f126_52, f128_52, f131_52, f133_52, f136_52, f138_52, f141_52, f143_52, f146_52, f148_52, hp⟩
    refine k_join (p := (.ef 57 (.ef 62 (.ef 67 (.ef 72 (.ef 77 (.ef 83 (.ef 88 (.ef 93 (.ef 98 (.ef 103 (.ef 109 (.ef 114 (.ef 119 (.ef 124 (.ef 129 (.tp 130 (.ef 132 (.done))))))))))))))))))) (A := fun ej wj => ∃ g30 : Nat, r9.length = 2 ∧ r14.length = 2 ∧ ej 4 = .pointer (some ⟨g3, 0, none⟩) ∧ ej 6 = .pointer (some ⟨g30, 0, none⟩) ∧ ej 45 = .agg (ints .u64 r9).toArray ∧ ej 71 = .agg (ints .u64 r14).toArray ∧ ej 72 = .agg (ints .u64 (List.replicate 2 (0 : Int))).toArray ∧ ej 74 = .int .u64 (a0.getD 0 0) ∧ ej 76 = .int .u64 (a1.getD 2 0) ∧ ej 79 = .int .u64 (a0.getD 1 0) ∧ ej 81 = .int .u64 (a1.getD 1 0) ∧ ej 84 = .int .u64 (a0.getD 2 0) ∧ ej 86 = .int .u64 (a1.getD 0 0) ∧ ej 89 = .int .u64 (a0.getD 3 0) ∧ ej 91 = .int .u64 ([0, (IntKind.u64.wrap (19 * (a1.getD 1 0))), (IntKind.u64.wrap (19 * (a1.getD 2 0))), (IntKind.u64.wrap (19 * (a1.getD 3 0))), (IntKind.u64.wrap (19 * (a1.getD 4 0)))].getD 4 0) ∧ ej 94 = .int .u64 (a0.getD 4 0) ∧ ej 96 = .int .u64 ([0, (IntKind.u64.wrap (19 * (a1.getD 1 0))), (IntKind.u64.wrap (19 * (a1.getD 2 0))), (IntKind.u64.wrap (19 * (a1.getD 3 0))), (IntKind.u64.wrap (19 * (a1.getD 4 0)))].getD 3 0) ∧ ej 98 = .agg (ints .u64 (List.replicate 2 (0 : Int))).toArray ∧ ej 100 = .int .u64 (a0.getD 0 0) ∧ ej 102 = .int .u64 (a1.getD 3 0) ∧ ej 105 = .int .u64 (a0.getD 1 0) ∧ ej 107 = .int .u64 (a1.getD 2 0) ∧ ej 110 = .int .u64 (a0.getD 2 0) ∧ ej 112 = .int .u64 (a1.getD 1 0) ∧ ej 115 = .int .u64 (a0.getD 3 0) ∧ ej 117 = .int .u64 (a1.getD 0 0) ∧ ej 120 = .int .u64 (a0.getD 4 0) ∧ ej 122 = .int .u64 ([0, (IntKind.u64.wrap (19 * (a1.getD 1 0))), (IntKind.u64.wrap (19 * (a1.getD 2 0))), (IntKind.u64.wrap (19 * (a1.getD 3 0))), (IntKind.u64.wrap (19 * (a1.getD 4 0)))].getD 4 0) ∧ ej 124 = .agg (ints .u64 (List.replicate 2 (0 : Int))).toArray ∧ ej 126 = .int .u64 (a0.getD 0 0) ∧ ej 128 = .int .u64 (a1.getD 4 0) ∧ ej 131 = .int .u64 (a0.getD 1 0) ∧ ej 133 = .int .u64 (a1.getD 3 0) ∧ ej 136 = .int .u64 (a0.getD 2 0) ∧ ej 138 = .int .u64 (a1.getD 2 0) ∧ ej 141 = .int .u64 (a0.getD 3 0) ∧ ej 143 = .int .u64 (a1.getD 1 0) ∧ ej 146 = .int .u64 (a0.getD 4 0) ∧ ej 148 = .int .u64 (a1.getD 0 0) ∧ Hp w0 [] wj [⟨g1, 0, ints .u64 a0⟩, ⟨g2, 0, ints .u64 a1⟩, ⟨g3, 0, ints .u64 (List.replicate 5 (0 : Int))⟩, ⟨g4, 0, ints .u64 [0, (IntKind.u64.wrap (19 * (a1.getD 1 0))), (IntKind.u64.wrap (19 * (a1.getD 2 0))), (IntKind.u64.wrap (19 * (a1.getD 3 0))), (IntKind.u64.wrap (19 * (a1.getD 4 0)))]⟩, ⟨g30, 0, ints .u64 (List.replicate 10 (0 : Int))⟩] []) ?_ (fun T53 => ?_)
    · rintro ej53 w ⟨g30, lr90, lr140, f4_53, f6_53, f45_53, f71_53, f72_53, f74_53, f76_53, f79_53, f81_53, f84_53, f86_53, f89_53, f91_53, f94_53, f96_53, f98_53, f100_53, f102_53, f105_53, f107_53, f110_53, f112_53, f115_53, f117_53, f120_53, f122_53, f124_53, f126_53, f128_53, f131_53, f133_53, f136_53, f138_53, f141_53, f143_53, f146_53, f148_53, hp⟩
      refine k_call [.agg (ints .u64 (List.replicate 2 (0 : Int))).toArray, .int .u64 (a0.getD 0 0), .int .u64 (a1.getD 2 0)] rfl (by kernel_rfl) (args3 f72_53 f74_53 f76_53) (field_wide_add_ok (List.replicate 2 (0 : Int)) (a0.getD 0 0) (a1.getD 2 0) List.length_replicate _ (hp.toR (fun _ h => by cases h)) qr15) ?_
      rintro _ w' ⟨_, rfl, rfl, lr150, hpc⟩
      refine ⟨_, rfl, .inr (.of_below hpc.chg.to_below), ?_⟩; have hp := hp.below hpc.chg.to_below; clear hpc
      exact T52 _ _ ⟨g30, lr90, lr140, lr150, f4_53, f6_53, f45_53, f71_53, rfl, f79_53, f81_53, f84_53, f86_53, f89_53, f91_53, f94_53, f96_53, f98_53, f100_53, f102_53, f105_53, f107_53, f110_53, f112_53, f115_53, f117_53, f120_53, f122_53, f124_53, f126_53, f128_53, f131_53, f133_53, f136_53, f138_53, f141_53, f143_53, f146_53, f148_53, hp⟩
    refine k_join (p := (.ef 51 (.ef 57 (.ef 62 (.ef 67 (.ef 72 (.ef 77 (.ef 83 (.ef 88 (.ef 93 (.ef 98 (.ef 103 (.ef 109 (.ef 114 (.ef 119 (.ef 124 (.ef 129 (.tp 130 (.ef 132 (.done)))))))))))))))))))) (A := fun ej wj => ∃ g30 : Nat, r9.length = 2 ∧ r13.length = 2 ∧ ej 4 = .pointer (some ⟨g3, 0, none⟩) ∧ ej 6 = .pointer (some ⟨g30, 0, none⟩) ∧ ej 45 = .agg (ints .u64 r9).toArray ∧ ej 66 = .agg (ints .u64 r13).toArray ∧ ej 68 = .int .u64 (a0.getD 4 0) ∧ ej 70 = .int .u64 ([0, (IntKind.u64.wrap (19 * (a1.getD 1 0))), (IntKind.u64.wrap (19 * (a1.getD 2 0))), (IntKind.u64.wrap (19 * (a1.getD 3 0))), (IntKind.u64.wrap (19 * (a1.getD 4 0)))].getD 2 0) ∧ ej 72 = .agg (ints .u64 (List.replicate 2 (0 : Int))).toArray ∧ ej 74 = .int .u64 (a0.getD 0 0) ∧ ej 76 = .int .u64 (a1.getD 2 0) ∧ ej 79 = .int .u64 (a0.getD 1 0) ∧ ej 81 = .int .u64 (a1.getD 1 0) ∧ ej 84 = .int .u64 (a0.getD 2 0) ∧ ej 86 = .int .u64 (a1.getD 0 0) ∧ ej 89 = .int .u64 (a0.getD 3 0) ∧ ej 91 = .int .u64 ([0, (IntKind.u64.wrap (19 * (a1.getD 1 0))), (IntKind.u64.wrap (19 * (a1.getD 2 0))), (IntKind.u64.wrap (19 * (a1.getD 3 0))), (IntKind.u64.wrap (19 * (a1.getD 4 0)))].getD 4 0) ∧ ej 94 = .int .u64 (a0.getD 4 0) ∧ ej 96 = .int .u64 ([0, (IntKind.u64.wrap (19 * (a1.getD 1 0))), (IntKind.u64.wrap (19 * (a1.getD 2 0))), (IntKind.u64.wrap (19 * (a1.getD 3 0))), (IntKind.u64.wrap (19 * (a1.getD 4 0)))].getD 3 0) ∧ ej 98 = .agg (ints .u64 (List.replicate 2 (0 : Int))).toArray ∧ ej 100 = .int .u64 (a0.getD 0 0) ∧ ej 102 = .int .u64 (a1.getD 3 0) ∧ ej 105 = .int .u64 (a0.getD 1 0) ∧ ej 107 = .int .u64 (a1.getD 2 0) ∧ ej 110 = .int .u64 (a0.getD 2 0) ∧ ej 112 = .int .u64 (a1.getD 1 0) ∧ ej 115 = .int .u64 (a0.getD 3 0) ∧ ej 117 = .int .u64 (a1.getD 0 0) ∧ ej 120 = .int .u64 (a0.getD 4 0) ∧ ej 122 = .int .u64 ([0, (IntKind.u64.wrap (19 * (a1.getD 1 0))), (IntKind.u64.wrap (19 * (a1.getD 2 0))), (IntKind.u64.wrap (19 * (a1.getD 3 0))), (IntKind.u64.wrap (19 * (a1.getD 4 0)))].getD 4 0) ∧ ej 124 = .agg (ints .u64 (List.replicate 2 (0 : Int))).toArray ∧ ej 126 = .int .u64 (a0.getD 0 0) ∧ ej 128 = .int .u64 (a1.getD 4 0) ∧ ej 131 = .int .u64 (a0.getD 1 0) ∧ ej 133 = .int .u64 (a1.getD 3 0) ∧ ej 136 = .int .u64 (a0.getD 2 0) ∧ ej 138 = .int .u64 (a1.getD 2 0) ∧ ej 141 = .int .u64 (a0.getD 3 0) ∧ ej 143 = .int .u64 (a1.getD 1 0) ∧ ej 146 = .int .u64 (a0.getD 4 0) ∧ ej 148 = .int .u64 (a1.getD 0 0) ∧ Hp w0 [] wj [⟨g1, 0, ints .u64 a0⟩, ⟨g2, 0, ints .u64 a1⟩, ⟨g3, 0, ints .u64 (List.replicate 5 (0 : Int))⟩, ⟨g4, 0, ints .u64 [0, (IntKind.u64.wrap (19 * (a1.getD 1 0))), (IntKind.u64.wrap (19 * (a1.getD 2 0))), (IntKind.u64.wrap (19 * (a1.getD 3 0))), (IntKind.u64.wrap (19 * (a1.getD 4 0)))]⟩, ⟨g30, 0, ints .u64 (List.replicate 10 (0 : Int))⟩] []) ?_ (fun T54 => ?_)
    · rintro ej54 w ⟨g30, lr90, lr130, f4_54, f6_54, f45_54, f66_54, f68_54, f70_54, f72_54, f74_54, f76_54, f79_54, f81_54, f84_54, f86_54, f89_54, f91_54, f94_54, f96_54, f98_54, f100_54, f102_54, f105_54, f107_54, f110_54, f112_54, f115_54, f117_54, f120_54, f122_54, f124_54, f126_54, f128_54, f131_54, f133_54, f136_54, f138_54, f141_54, f143_54, f146_54, f148_54, hp⟩
      refine k_call [.agg (ints .u64 r13).toArray, .int .u64 (a0.getD 4 0), .int .u64 ([0, (IntKind.u64.wrap (19 * (a1.getD 1 0))), (IntKind.u64.wrap (19 * (a1.getD 2 0))), (IntKind.u64.wrap (19 * (a1.getD 3 0))), (IntKind.u64.wrap (19 * (a1.getD 4 0)))].getD 2 0)] rfl (by kernel_rfl) (args3 f66_54 f68_54 f70_54) (field_wide_add_ok r13 (a0.getD 4 0) ([0, (IntKind.u64.wrap (19 * (a1.getD 1 0))), (IntKind.u64.wrap (19 * (a1.getD 2 0))), (IntKind.u64.wrap (19 * (a1.getD 3 0))), (IntKind.u64.wrap (19 * (a1.getD 4 0)))].getD 2 0) lr130 _ (hp.toR (fun _ h => by cases h)) qr14) ?_
      rintro _ w' ⟨_, rfl, rfl, lr140, hpc⟩
      refine ⟨_, rfl, .inr (.of_below hpc.chg.to_below), ?_⟩; have hp := hp.below hpc.chg.to_below; clear hpc
      exact T53 _ _ ⟨g30, lr90, lr140, f4_54, f6_54, f45_54, rfl, f72_54, f74_54, f76_54, f79_54, f81_54, f84_54, f86_54, f89_54, f91_54, f94_54, f96_54, f98_54, f100_54, f102_54, f105_54, f107_54, f110_54, f112_54, f115_54, f117_54, f120_54, f122_54, f124_54, f126_54, f128_54, f131_54, f133_54, f136_54, f138_54, f141_54, f143_54, f146_54, f148_54, hp⟩
    refine k_join (p := (.ef 46 (.ef 51 (.ef 57 (.ef 62 (.ef 67 (.ef 72 (.ef 77 (.ef 83 (.ef 88 (.ef 93 (.ef 98 (.ef 103 (.ef 109 (.ef 114 (.ef 119 (.ef 124 (.ef 129 (.tp 130 (.ef 132 (.done))))))))))))))))))))) (A := fun ej wj => ∃ g30 : Nat, r9.length = 2 ∧ r12.length = 2 ∧ ej 4 = .pointer (some ⟨g3, 0, none⟩) ∧ ej 6 = .pointer (some ⟨g30, 0, none⟩) ∧ ej 45 = .agg (ints .u64 r9).toArray ∧ ej 61 = .agg (ints .u64 r12).toArray ∧ ej 63 = .int .u64 (a0.getD 3 0) ∧ ej 65 = .int .u64 ([0, (IntKind.u64.wrap (19 * (a1.getD 1 0))), (IntKind.u64.wrap (19 * (a1.getD 2 0))), (IntKind.u64.wrap (19 * (a1.getD 3 0))), (IntKind.u64.wrap (19 * (a1.getD 4 0)))].getD 3 0) ∧ ej 68 = .int .u64 (a0.getD 4 0) ∧ ej 70 = .int .u64 ([0, (IntKind.u64.wrap (19 * (a1.getD 1 0))), (IntKind.u64.wrap (19 * (a1.getD 2 0))), (IntKind.u64.wrap (19 * (a1.getD 3 0))), (IntKind.u64.wrap (19 * (a1.getD 4 0)))].getD 2 0) ∧ ej 72 = .agg (ints .u64 (List.replicate 2 (0 : Int))).toArray ∧ ej 74 = .int .u64 (a0.getD 0 0) ∧ ej 76 = .int .u64 (a1.getD 2 0) ∧ ej 79 = .int .u64 (a0.getD 1 0) ∧ ej 81 = .int .u64 (a1.getD 1 0) ∧ ej 84 = .int .u64 (a0.getD 2 0) ∧ ej 86 = .int .u64 (a1.getD 0 0) ∧ ej 89 = .int .u64 (a0.getD 3 0) ∧ ej 91 = .int .u64 ([0, (IntKind.u64.wrap (19 * (a1.getD 1 0))), (IntKind.u64.wrap (19 * (a1.getD 2 0))), (IntKind.u64.wrap (19 * (a1.getD 3 0))), (IntKind.u64.wrap (19 * (a1.getD 4 0)))].getD 4 0) ∧ ej 94 = .int .u64 (a0.getD 4 0) ∧ ej 96 = .int .u64 ([0, (IntKind.u64.wrap (19 * (a1.getD 1 0))), (IntKind.u64.wrap (19 * (a1.getD 2 0))), (IntKind.u64.wrap (19 * (a1.getD 3 0))), (IntKind.u64.wrap (19 * (a1.getD 4 0)))].getD 3 0) ∧ ej 98 = .agg (ints .u64 (List.replicate 2 (0 : Int))).toArray ∧ ej 100 = .int .u64 (a0.getD 0 0) ∧ ej 102 = .int .u64 (a1.getD 3 0) ∧ ej 105 = .int .u64 (a0.getD 1 0) ∧ ej 107 = .int .u64 (a1.getD 2 0) ∧ ej 110 = .int .u64 (a0.getD 2 0) ∧ ej 112 = .int .u64 (a1.getD 1 0) ∧ ej 115 = .int .u64 (a0.getD 3 0) ∧ ej 117 = .int .u64 (a1.getD 0 0) ∧ ej 120 = .int .u64 (a0.getD 4 0) ∧ ej 122 = .int .u64 ([0, (IntKind.u64.wrap (19 * (a1.getD 1 0))), (IntKind.u64.wrap (19 * (a1.getD 2 0))), (IntKind.u64.wrap (19 * (a1.getD 3 0))), (IntKind.u64.wrap (19 * (a1.getD 4 0)))].getD 4 0) ∧ ej 124 = .agg (ints .u64 (List.replicate 2 (0 : Int))).toArray ∧ ej 126 = .int .u64 (a0.getD 0 0) ∧ ej 128 = .int .u64 (a1.getD 4 0) ∧ ej 131 = .int .u64 (a0.getD 1 0) ∧ ej 133 = .int .u64 (a1.getD 3 0) ∧ ej 136 = .int .u64 (a0.getD 2 0) ∧ ej 138 = .int .u64 (a1.getD 2 0) ∧ ej 141 = .int .u64 (a0.getD 3 0) ∧ ej 143 = .int .u64 (a1.getD 1 0) ∧ ej 146 = .int .u64 (a0.getD 4 0) ∧ ej 148 = .int .u64 (a1.getD 0 0) ∧ Hp w0 [] wj [⟨g1, 0, ints .u64 a0⟩, ⟨g2, 0, ints .u64 a1⟩, ⟨g3, 0, ints .u64 (List.replicate 5 (0 : Int))⟩, ⟨g4, 0, ints .u64 [0, (IntKind.u64.wrap (19 * (a1.getD 1 0))), (IntKind.u64.wrap (19 * (a1.getD 2 0))), (IntKind.u64.wrap (19 * (a1.getD 3 0))), (IntKind.u64.wrap (19 * (a1.getD 4 0)))]⟩, ⟨g30, 0, ints .u64 (List.replicate 10 (0 : Int))⟩] []) ?_ (fun T55 => ?_)
    · rintro ej55 w ⟨g30, lr90, lr120, f4_55, f6_55, f45_55, f61_55, f63_55, f65_55, f68_55, f70_55, f72_55, f74_55, f76_55, f79_55, f81_55, f84_55, f86_55, f89_55, f91_55, f94_55, f96_55, f98_55, f100_55, f102_55, f105_55, f107_55, f110_55, f112_55, f115_55, f117_55, f120_55, f122_55, f124_55, f126_55, f128_55, f131_55, f133_55, f136_55, f138_55, f141_55, f143_55, f146_55, f148_55, hp⟩
      refine k_call [.agg (ints .u64 r12).toArray, .int .u64 (a0.getD 3 0), .int .u64 ([0, (IntKind.u64.wrap (19 * (a1.getD 1 0))), (IntKind.u64.wrap (19 * (a1.getD 2 0))), (IntKind.u64.wrap (19 * (a1.getD 3 0))), (IntKind.u64.wrap (19 * (a1.getD 4 0)))].getD 3 0)] rfl (by kernel_rfl) (args3 f61_55 f63_55 f65_55) (field_wide_add_ok r12 (a0.getD 3 0) ([0, (IntKind.u64.wrap (19 * (a1.getD 1 0))), (IntKind.u64.wrap (19 * (a1.getD 2 0))), (IntKind.u64.wrap (19 * (a1.getD 3 0))), (IntKind.u64.wrap (19 * (a1.getD 4 0)))].getD 3 0) lr120 _ (hp.toR (fun _ h => by cases h)) qr13) ?_
      rintro _ w' ⟨_, rfl, rfl, lr130, hpc⟩
      refine ⟨_, rfl, .inr (.of_below hpc.chg.to_below), ?_⟩; have hp := hp.below hpc.chg.to_below; clear hpc
      exact T54 _ _ ⟨g30, lr90, lr130, f4_55, f6_55, f45_55, rfl, f68_55, f70_55, f72_55, f74_55, f76_55, f79_55, f81_55, f84_55, f86_55, f89_55, f91_55, f94_55, f96_55, f98_55, f100_55, f102_55, f105_55, f107_55, f110_55, f112_55, f115_55, f117_55, f120_55, f122_55, f124_55, f126_55, f128_55, f131_55, f133_55, f136_55, f138_55, f141_55, f143_55, f146_55, f148_55, hp⟩
    refine k_join (p := (.ef 41 (.ef 46 (.ef 51 (.ef 57 (.ef 62 (.ef 67 (.ef 72 (.ef 77 (.ef 83 (.ef 88 (.ef 93 (.ef 98 (.ef 103 (.ef 109 (.ef 114 (.ef 119 (.ef 124 (.ef 129 (.tp 130 (.ef 132 (.done)))))))))))))))))))))) (A := fun ej wj => ∃ g30 : Nat, r9.length = 2 ∧ r11.length = 2 ∧ ej 4 = .pointer (some ⟨g3, 0, none⟩) ∧ ej 6 = .pointer (some ⟨g30, 0, none⟩) ∧ ej 45 = .agg (ints .u64 r9).toArray ∧ ej 56 = .agg (ints .u64 r11).toArray ∧ ej 58 = .int .u64 (a0.getD 2 0) ∧ ej 60 = .int .u64 ([0, (IntKind.u64.wrap (19 * (a1.getD 1 0))), (IntKind.u64.wrap (19 * (a1.getD 2 0))), (IntKind.u64.wrap (19 * (a1.getD 3 0))), (IntKind.u64.wrap (19 * (a1.getD 4 0)))].getD 4 0) ∧ ej 63 = .int .u64 (a0.getD 3 0) ∧ ej 65 = .int .u64 ([0, (IntKind.u64.wrap (19 * (a1.getD 1 0))), (IntKind.u64.wrap (19 * (a1.getD 2 0))), (IntKind.u64.wrap (19 * (a1.getD 3 0))), (IntKind.u64.wrap (19 * (a1.getD 4 0)))].getD 3 0) ∧ ej 68 = .int .u64 (a0.getD 4 0) ∧ ej 70 = .int .u64 ([0, (IntKind.u64.wrap (19 * (a1.getD 1 0))), (IntKind.u64.wrap (19 * (a1.getD 2 0))), (IntKind.u64.wrap (19 * (a1.getD 3 0))), (IntKind.u64.wrap (19 * (a1.getD 4 0)))].getD 2 0) ∧ ej 72 = .agg (ints .u64 (List.replicate 2 (0 : Int))).toArray ∧ ej 74 = .int .u64 (a0.getD 0 0) ∧ ej 76 = .int .u64 (a1.getD 2 0) ∧ ej 79 = .int .u64 (a0.getD 1 0) ∧ ej 81 = .int .u64 (a1.getD 1 0) ∧ ej 84 = .int .u64 (a0.getD 2 0) ∧ ej 86 = .int .u64 (a1.getD 0 0) ∧ ej 89 = .int .u64 (a0.getD 3 0) ∧ ej 91 = .int .u64 ([0, (IntKind.u64.wrap (19 * (a1.getD 1 0))), (IntKind.u64.wrap (19 * (a1.getD 2 0))), (IntKind.u64.wrap (19 * (a1.getD 3 0))), (IntKind.u64.wrap (19 * (a1.getD 4 0)))].getD 4 0) ∧ ej 94 = .int .u64 (a0.getD 4 0) ∧ ej 96 = .int .u64 ([0, (IntKind.u64.wrap (19 * (a1.getD 1 0))), (IntKind.u64.wrap (19 * (a1.getD 2 0))), (IntKind.u64.wrap (19 * (a1.getD 3 0))), (IntKind.u64.wrap (19 * (a1.getD 4 0)))].getD 3 0) ∧ ej 98 = .agg (ints .u64 (List.replicate 2 (0 : Int))).toArray ∧ ej 100 = .int .u64 (a0.getD 0 0) ∧ ej 102 = .int .u64 (a1.getD 3 0) ∧ ej 105 = .int .u64 (a0.getD 1 0) ∧ ej 107 = .int .u64 (a1.getD 2 0) ∧ ej 110 = .int .u64 (a0.getD 2 0) ∧ ej 112 = .int .u64 (a1.getD 1 0) ∧ ej 115 = .int .u64 (a0.getD 3 0) ∧ ej 117 = .int .u64 (a1.getD 0 0) ∧ ej 120 = .int .u64 (a0.getD 4 0) ∧ ej 122 = .int .u64 ([0, (IntKind.u64.wrap (19 * (a1.getD 1 0))), (IntKind.u64.wrap (19 * (a1.getD 2 0))), (IntKind.u64.wrap (19 * (a1.getD 3 0))), (IntKind.u64.wrap (19 * (a1.getD 4 0)))].getD 4 0) ∧ ej 124 = .agg (ints .u64 (List.replicate 2 (0 : Int))).toArray ∧ ej 126 = .int .u64 (a0.getD 0 0) ∧ ej 128 = .int .u64 (a1.getD 4 0) ∧ ej 131 = .int .u64 (a0.getD 1 0) ∧ ej 133 = .int .u64 (a1.getD 3 0) ∧ ej 136 = .int .u64 (a0.getD 2 0) ∧ ej 138 = .int .u64 (a1.getD 2 0) ∧ ej 141 = .int .u64 (a0.getD 3 0) ∧ ej 143 = .int .u64 (a1.getD 1 0) ∧ ej 146 = .int .u64 (a0.getD 4 0) ∧ ej 148 = .int .u64 (a1.getD 0 0) ∧ Hp w0 [] wj [⟨g1, 0, ints .u64 a0⟩, ⟨g2, 0, ints .u64 a1⟩, ⟨g3, 0, ints .u64 (List.replicate 5 (0 : Int))⟩, ⟨g4, 0, ints .u64 [0, (IntKind.u64.wrap (19 * (a1.getD 1 0))), (IntKind.u64.wrap (19 * (a1.getD 2 0))), (IntKind.u64.wrap (19 * (a1.getD 3 0))), (IntKind.u64.wrap (19 * (a1.getD 4 0)))]⟩, ⟨g30, 0, ints .u64 (List.replicate 10 (0 : Int))⟩] []) ?_ (fun T56 => ?_)
    · rintro ej56 w ⟨g30, lr90, lr110, f4_56, f6_56, f45_56, f56_56, f58_56, f60_56, f63_56, f65_56, f68_56, f70_56, f72_56, f74_56, f76_56, f79_56, f81_56, f84_56, f86_56, f89_56, f91_56, f94_56, f96_56, f98_56, f100_56, f102_56, f105_56, f107_56, f110_56, f112_56, f115_56, f117_56, f120_56, f122_56, f124_56, f126_56, f128_56, f131_56, f133_56, f136_56, f138_56, f141_56, f143_56, f146_56, f148_56, hp⟩
      refine k_call [.agg (ints .u64 r11).toArray, .int .u64 (a0.getD 2 0), .int .u64 ([0, (IntKind.u64.wrap (19 * (a1.getD 1 0))), (IntKind.u64.wrap (19 * (a1.getD 2 0))), (IntKind.u64.wrap (19 * (a1.getD 3 0))), (IntKind.u64.wrap (19 * (a1.getD 4 0)))].getD 4 0)] rfl (by kernel_rfl) (args3 f56_56 f58_56 f60_56) (field_wide_add_ok r11 (a0.getD 2 0) ([0, (IntKind.u64.wrap (19 * (a1.getD 1 0))), (IntKind.u64.wrap (19 * (a1.getD 2 0))), (IntKind.u64.wrap (19 * (a1.getD 3 0))), (IntKind.u64.wrap (19 * (a1.getD 4 0)))].getD 4 0) lr110 _ (hp.toR (fun _ h => by cases h)) qr12) ?_
      rintro _ w' ⟨_, rfl, rfl, lr120, hpc⟩
      refine ⟨_, rfl, .inr (.of_below hpc.chg.to_below), ?_⟩; have hp := hp.below hpc.chg.to_below; clear hpc
      exact T55 _ _ ⟨g30, lr90, lr120, f4_56, f6_56, f45_56, rfl, f63_56, f65_56, f68_56, f70_56, f72_56, f74_56, f76_56, f79_56, f81_56, f84_56, f86_56, f89_56, f91_56, f94_56, f96_56, f98_56, f100_56, f102_56, f105_56, f107_56, f110_56, f112_56, f115_56, f117_56, f120_56, f122_56, f124_56, f126_56, f128_56, f131_56, f133_56, f136_56, f138_56, f141_56, f143_56, f146_56, f148_56, hp⟩
    refine k_join (p := (.ef 36 (.ef 41 (.ef 46 (.ef 51 (.ef 57 (.ef 62 (.ef 67 (.ef 72 (.ef 77 (.ef 83 (.ef 88 (.ef 93 (.ef 98 (.ef 103 (.ef 109 (.ef 114 (.ef 119 (.ef 124 (.ef 129 (.tp 130 (.ef 132 (.done))))))))))))))))))))))) (A := fun ej wj => ∃ g30 : Nat, r9.length = 2 ∧ r10.length = 2 ∧ ej 4 = .pointer (some ⟨g3, 0, none⟩) ∧ ej 6 = .pointer (some ⟨g30, 0, none⟩) ∧ ej 45 = .agg (ints .u64 r9).toArray ∧ ej 51 = .agg (ints .u64 r10).toArray ∧ ej 53 = .int .u64 (a0.getD 1 0) ∧ ej 55 = .int .u64 (a1.getD 0 0) ∧ ej 58 = .int .u64 (a0.getD 2 0) ∧ ej 60 = .int .u64 ([0, (IntKind.u64.wrap (19 * (a1.getD 1 0))), (IntKind.u64.wrap (19 * (a1.getD 2 0))), (IntKind.u64.wrap (19 * (a1.getD 3 0))), (IntKind.u64.wrap (19 * (a1.getD 4 0)))].getD 4 0) ∧ ej 63 = .int .u64 (a0.getD 3 0) ∧ ej 65 = .int .u64 ([0, (IntKind.u64.wrap (19 * (a1.getD 1 0))), (IntKind.u64.wrap (19 * (a1.getD 2 0))), (IntKind.u64.wrap (19 * (a1.getD 3 0))), (IntKind.u64.wrap (19 * (a1.getD 4 0)))].getD 3 0) ∧ ej 68 = .int .u64 (a0.getD 4 0) ∧ ej 70 = .int .u64 ([0, (IntKind.u64.wrap (19 * (a1.getD 1 0))), (IntKind.u64.wrap (19 * (a1.getD 2 0))), (IntKind.u64.wrap (19 * (a1.getD 3 0))), (IntKind.u64.wrap (19 * (a1.getD 4 0)))].getD 2 0) ∧ ej 72 = .agg (ints .u64 (List.replicate 2 (0 : Int))).toArray ∧ ej 74 = .int .u64 (a0.getD 0 0) ∧ ej 76 = .int .u64 (a1.getD 2 0) ∧ ej 79 = .int .u64 (a0.getD 1 0) ∧ ej 81 = .int .u64 (a1.getD 1 0) ∧ ej 84 = .int .u64 (a0.getD 2 0) ∧ ej 86 = .int .u64 (a1.getD 0 0) ∧ ej 89 = .int .u64 (a0.getD 3 0) ∧ ej 91 = .int .u64 ([0, (IntKind.u64.wrap (19 * (a1.getD 1 0))), (IntKind.u64.wrap (19 * (a1.getD 2 0))), (IntKind.u64.wrap (19 * (a1.getD 3 0))), (IntKind.u64.wrap (19 * (a1.getD 4 0)))].getD 4 0) ∧ ej 94 = .int .u64 (a0.getD 4 0) ∧ ej 96 = .int .u64 ([0, (IntKind.u64.wrap (19 * (a1.getD 1 0))), (IntKind.u64.wrap (19 * (a1.getD 2 0))), (IntKind.u64.wrap (19 * (a1.getD 3 0))), (IntKind.u64.wrap (19 * (a1.getD 4 0)))].getD 3 0) ∧ ej 98 = .agg (ints .u64 (List.replicate 2 (0 : Int))).toArray ∧ ej 100 = .int .u64 (a0.getD 0 0) ∧ ej 102 = .int .u64 (a1.getD 3 0) ∧ ej 105 = .int .u64 (a0.getD 1 0) ∧ ej 107 = .int .u64 (a1.getD 2 0) ∧ ej 110 = .int .u64 (a0.getD 2 0) ∧ ej 112 = .int .u64 (a1.getD 1 0) ∧ ej 115 = .int .u64 (a0.getD 3 0) ∧ ej 117 = .int .u64 (a1.getD 0 0) ∧ ej 120 = .int .u64 (a0.getD 4 0) ∧ ej 122 = .int .u64 ([0, (IntKind.u64.wrap (19 * (a1.getD 1 0))), (IntKind.u64.wrap (19 * (a1.getD 2 0))), (IntKind.u64.wrap (19 * (a1.getD 3 0))), (IntKind.u64.wrap (19 * (a1.getD 4 0)))].getD 4 0) ∧ ej 124 = .agg (ints .u64 (List.replicate 2 (0 : Int))).toArray ∧ ej 126 = .int .u64 (a0.getD 0 0) ∧ ej 128 = .int .u64 (a1.getD 4 0) ∧ ej 131 = .int .u64 (a0.getD 1 0) ∧ ej 133 = .int .u64 (a1.getD 3 0) ∧ ej 136 = .int .u64 (a0.getD 2 0) ∧ ej 138 = .int .u64 (a1.getD 2 0) ∧ ej 141 = .int .u64 (a0.getD 3 0) ∧ ej 143 = .int .u64 (a1.getD 1 0) ∧ ej 146 = .int .u64 (a0.getD 4 0) ∧ ej 148 = .int .u64 (a1.getD 0 0) ∧ Hp w0 [] wj [⟨g1, 0, ints .u64 a0⟩, ⟨g2, 0, ints .u64 a1⟩, ⟨g3, 0, ints .u64 (List.replicate 5 (0 : Int))⟩, ⟨g4, 0, ints .u64 [0, (IntKind.u64.wrap (19 * (a1.getD 1 0))), (IntKind.u64.wrap (19 * (a1.getD 2 0))), (IntKind.u64.wrap (19 * (a1.getD 3 0))), (IntKind.u64.wrap (19 * (a1.getD 4 0)))]⟩, ⟨g30, 0, ints .u64 (List.replicate 10 (0 : Int))⟩] []) ?_ (fun T57 => ?_)
    · rintro ej57 w ⟨g30, lr90, lr100, f4_57, f6_57, f45_57, f51_57, f53_57, f55_57, f58_57, f60_57, f63_57, f65_57, f68_57, f70_57, f72_57, f74_57, f76_57, f79_57, f81_57, f84_57, f86_57, f89_57, f91_57, f94_57, f96_57, f98_57, f100_57, f102_57, f105_57, f107_57, f110_57, f112_57, f115_57, f117_57, f120_57, f122_57, f124_57, f126_57, f128_57, f131_57, f133_57, f136_57, f138_57, f141_57, f143_57, f146_57, f148_57, hp⟩
      refine k_call [.agg (ints .u64 r10).toArray, .int .u64 (a0.getD 1 0), .int .u64 (a1.getD 0 0)] rfl (by kernel_rfl) (args3 f51_57 f53_57 f55_57) (field_wide_add_ok r10 (a0.getD 1 0) (a1.getD 0 0) lr100 _ (hp.toR (fun _ h => by cases h)) qr11) ?_
      rintro _ w' ⟨_, rfl, rfl, lr110, hpc⟩
      refine ⟨_, rfl, .inr (.of_below hpc.chg.to_below), ?_⟩; have hp := hp.below hpc.chg.to_below; clear hpc
      exact T56 _ _ ⟨g30, lr90, lr110, f4_57, f6_57, f45_57, rfl, f58_57, f60_57, f63_57, f65_57, f68_57, f70_57, f72_57, f74_57, f76_57, f79_57, f81_57, f84_57, f86_57, f89_57, f91_57, f94_57, f96_57, f98_57, f100_57, f102_57, f105_57, f107_57, f110_57, f112_57, f115_57, f117_57, f120_57, f122_57, f124_57, f126_57, f128_57, f131_57, f133_57, f136_57, f138_57, f141_57, f143_57, f146_57, f148_57, hp⟩
    refine k_join (p := (.ef 31 (.ef 36 (.ef 41 (.ef 46 (.ef 51 (.ef 57 (.ef 62 (.ef 67 (.ef 72 (.ef 77 (.ef 83 (.ef 88 (.ef 93 (.ef 98 (.ef 103 (.ef 109 (.ef 114 (.ef 119 (.ef 124 (.ef 129 (.tp 130 (.ef 132 (.done)))))))))))))))))))))))) (A := fun ej wj => ∃ g30 : Nat, r9.length = 2 ∧ ej 4 = .pointer (some ⟨g3, 0, none⟩) ∧ ej 6 = .pointer (some ⟨g30, 0, none⟩) ∧ ej 45 = .agg (ints .u64 r9).toArray ∧ ej 46 = .agg (ints .u64 (List.replicate 2 (0 : Int))).toArray ∧ ej 48 = .int .u64 (a0.getD 0 0) ∧ ej 50 = .int .u64 (a1.getD 1 0) ∧ ej 53 = .int .u64 (a0.getD 1 0) ∧ ej 55 = .int .u64 (a1.getD 0 0) ∧ ej 58 = .int .u64 (a0.getD 2 0) ∧ ej 60 = .int .u64 ([0, (IntKind.u64.wrap (19 * (a1.getD 1 0))), (IntKind.u64.wrap (19 * (a1.getD 2 0))), (IntKind.u64.wrap (19 * (a1.getD 3 0))), (IntKind.u64.wrap (19 * (a1.getD 4 0)))].getD 4 0) ∧ ej 63 = .int .u64 (a0.getD 3 0) ∧ ej 65 = .int .u64 ([0, (IntKind.u64.wrap (19 * (a1.getD 1 0))), (IntKind.u64.wrap (19 * (a1.getD 2 0))), (IntKind.u64.wrap (19 * (a1.getD 3 0))), (IntKind.u64.wrap (19 * (a1.getD 4 0)))].getD 3 0) ∧ ej 68 = .int .u64 (a0.getD 4 0) ∧ ej 70 = .int .u64 ([0, (IntKind.u64.wrap (19 * (a1.getD 1 0))), (IntKind.u64.wrap (19 * (a1.getD 2 0))), (IntKind.u64.wrap (19 * (a1.getD 3 0))), (IntKind.u64.wrap (19 * (a1.getD 4 0)))].getD 2 0) ∧ ej 72 = .agg (ints .u64 (List.replicate 2 (0 : Int))).toArray ∧ ej 74 = .int .u64 (a0.getD 0 0) ∧ ej 76 = .int .u64 (a1.getD 2 0) ∧ ej 79 = .int .u64 (a0.getD 1 0) ∧ ej 81 = .int .u64 (a1.getD 1 0) ∧ ej 84 = .int .u64 (a0.getD 2 0) ∧ ej 86 = .int .u64 (a1.getD 0 0) ∧ ej 89 = .int .u64 (a0.getD 3 0) ∧ ej 91 = .int .u64 ([0, (IntKind.u64.wrap (19 * (a1.getD 1 0))), (IntKind.u64.wrap (19 * (a1.getD 2 0))), (IntKind.u64.wrap (19 * (a1.getD 3 0))), (IntKind.u64.wrap (19 * (a1.getD 4 0)))].getD 4 0) ∧ ej 94 = .int .u64 (a0.getD 4 0) ∧ ej 96 = .int .u64 ([0, (IntKind.u64.wrap (19 * (a1.getD 1 0))), (IntKind.u64.wrap (19 * (a1.getD 2 0))), (IntKind.u64.wrap (19 * (a1.getD 3 0))), (IntKind.u64.wrap (19 * (a1.getD 4 0)))].getD 3 0) ∧ ej 98 = .agg (ints .u64 (List.replicate 2 (0 : Int))).toArray ∧ ej 100 = .int .u64 (a0.getD 0 0) ∧ ej 102 = .int .u64 (a1.getD 3 0) ∧ ej 105 = .int .u64 (a0.getD 1 0) ∧ ej 107 = .int .u64 (a1.getD 2 0) ∧ ej 110 = .int .u64 (a0.getD 2 0) ∧ ej 112 = .int .u64 (a1.getD 1 0) ∧ ej 115 = .int .u64 (a0.getD 3 0) ∧ ej 117 = .int .u64 (a1.getD 0 0) ∧ ej 120 = .int .u64 (a0.getD 4 0) ∧ ej 122 = .int .u64 ([0, (IntKind.u64.wrap (19 * (a1.getD 1 0))), (IntKind.u64.wrap (19 * (a1.getD 2 0))), (IntKind.u64.wrap (19 * (a1.getD 3 0))), (IntKind.u64.wrap (19 * (a1.getD 4 0)))].getD 4 0) ∧ ej 124 = .agg (ints .u64 (List.replicate 2 (0 : Int))).toArray ∧ ej 126 = .int .u64 (a0.getD 0 0) ∧ ej 128 = .int .u64 (a1.getD 4 0) ∧ ej 131 = .int .u64 (a0.getD 1 0) ∧ ej 133 = .int .u64 (a1.getD 3 0) ∧ ej 136 = .int .u64 (a0.getD 2 0) ∧ ej 138 = .int .u64 (a1.getD 2 0) ∧ ej 141 = .int .u64 (a0.getD 3 0) ∧ ej 143 = .int .u64 (a1.getD 1 0) ∧ ej 146 = .int .u64 (a0.getD 4 0) ∧ ej 148 = .int .u64 (a1.getD 0 0) ∧ Hp w0 [] wj [⟨g1, 0, ints .u64 a0⟩, ⟨g2, 0, ints .u64 a1⟩, ⟨g3, 0, ints .u64 (List.replicate 5 (0 : Int))⟩, ⟨g4, 0, ints .u64 [0, (IntKind.u64.wrap (19 * (a1.getD 1 0))), (IntKind.u64.wrap (19 * (a1.getD 2 0))), (IntKind.u64.wrap (19 * (a1.getD 3 0))), (IntKind.u64.wrap (19 * (a1.getD 4 0)))]⟩, ⟨g30, 0, ints .u64 (List.replicate 10 (0 : Int))⟩] []) ?_ (fun T58 => ?_)
    · rintro ej58 w ⟨g30, lr90, f4_58, f6_58, f45_58, f46_58, f48_58, f50_58, f53_58, f55_58, f58_58, f60_58, f63_58, f65_58, f68_58, f70_58, f72_58, f74_58, f76_58, f79_58, f81_58, f84_58, f86_58, f89_58, f91_58, f94_58, f96_58, f98_58, f100_58, f102_58, f105_58, f107_58, f110_58, f112_58, f115_58, f117_58, f120_58, f122_58, f124_58, f126_58, f128_58, f131_58, f133_58, f136_58, f138_58, f141_58, f143_58, f146_58, f148_58, hp⟩
      refine k_call [.agg (ints .u64 (List.replicate 2 (0 : Int))).toArray, .int .u64 (a0.getD 0 0), .int .u64 (a1.getD 1 0)] rfl (by kernel_rfl) (args3 f46_58 f48_58 f50_58) (field_wide_add_ok (List.replicate 2 (0 : Int)) (a0.getD 0 0) (a1.getD 1 0) List.length_replicate _ (hp.toR (fun _ h => by cases h)) qr10) ?_
      rintro _ w' ⟨_, rfl, rfl, lr100, hpc⟩
      refine ⟨_, rfl, .inr (.of_below hpc.chg.to_below), ?_⟩; have hp := hp.below hpc.chg.to_below; clear hpc
      exact T57 _ _ ⟨g30, lr90, lr100, f4_58, f6_58, f45_58, rfl, f53_58, f55_58, f58_58, f60_58, f63_58, f65_58, f68_58, f70_58, f72_58, f74_58, f76_58, f79_58, f81_58, f84_58, f86_58, f89_58, f91_58, f94_58, f96_58, f98_58, f100_58, f102_58, f105_58, f107_58, f110_58, f112_58, f115_58, f117_58, f120_58, f122_58, f124_58, f126_58, f128_58, f131_58, f133_58, f136_58, f138_58, f141_58, f143_58, f146_58, f148_58, hp⟩
    refine k_join (p := (.ef 25 (.ef 31 (.ef 36 (.ef 41 (.ef 46 (.ef 51 (.ef 57 (.ef 62 (.ef 67 (.ef 72 (.ef 77 (.ef 83 (.ef 88 (.ef 93 (.ef 98 (.ef 103 (.ef 109 (.ef 114 (.ef 119 (.ef 124 (.ef 129 (.tp 130 (.ef 132 (.done))))))))))))))))))))))))) (A := fun ej wj => ∃ g30 : Nat, r8.length = 2 ∧ ej 4 = .pointer (some ⟨g3, 0, none⟩) ∧ ej 6 = .pointer (some ⟨g30, 0, none⟩) ∧ ej 40 = .agg (ints .u64 r8).toArray ∧ ej 42 = .int .u64 (a0.getD 4 0) ∧ ej 44 = .int .u64 ([0, (IntKind.u64.wrap (19 * (a1.getD 1 0))), (IntKind.u64.wrap (19 * (a1.getD 2 0))), (IntKind.u64.wrap (19 * (a1.getD 3 0))), (IntKind.u64.wrap (19 * (a1.getD 4 0)))].getD 1 0) ∧ ej 46 = .agg (ints .u64 (List.replicate 2 (0 : Int))).toArray ∧ ej 48 = .int .u64 (a0.getD 0 0) ∧ ej 50 = .int .u64 (a1.getD 1 0) ∧ ej 53 = .int .u64 (a0.getD 1 0) ∧ ej 55 = .int .u64 (a1.getD 0 0) ∧ ej 58 = .int .u64 (a0.getD 2 0) ∧ ej 60 = .int .u64 ([0, (IntKind.u64.wrap (19 * (a1.getD 1 0))), (IntKind.u64.wrap (19 * (a1.getD 2 0))), (IntKind.u64.wrap (19 * (a1.getD 3 0))), (IntKind.u64.wrap (19 * (a1.getD 4 0)))].getD 4 0) ∧ ej 63 = .int .u64 (a0.getD 3 0) ∧ ej 65 = .int .u64 ([0, (IntKind.u64.wrap (19 * (a1.getD 1 0))), (IntKind.u64.wrap (19 * (a1.getD 2 0))), (IntKind.u64.wrap (19 * (a1.getD 3 0))), (IntKind.u64.wrap (19 * (a1.getD 4 0)))].getD 3 0) ∧ ej 68 = .int .u64 (a0.getD 4 0) ∧ ej 70 = .int .u64 ([0, (IntKind.u64.wrap (19 * (a1.getD 1 0))), (IntKind.u64.wrap (19 * (a1.getD 2 0))), (IntKind.u64.wrap (19 * (a1.getD 3 0))), (IntKind.u64.wrap (19 * (a1.getD 4 0)))].getD 2 0) ∧ ej 72 = .agg (ints .u64 (List.replicate 2 (0 : Int))).toArray ∧ ej 74 = .int .u64 (a0.getD 0 0) ∧ ej 76 = .int .u64 (a1.getD 2 0) ∧ ej 79 = .int .u64 (a0.getD 1 0) ∧ ej 81 = .int .u64 (a1.getD 1 0) ∧ ej 84 = .int .u64 (a0.getD 2 0) ∧ ej 86 = .int .u64 (a1.getD 0 0) ∧ ej 89 = .int .u64 (a0.getD 3 0) ∧ ej 91 = .int .u64 ([0, (IntKind.u64.wrap (19 * (a1.getD 1 0))), (IntKind.u64.wrap (19 * (a1.getD 2 0))), (IntKind.u64.wrap (19 * (a1.getD 3 0))), (IntKind.u64.wrap (19 * (a1.getD 4 0)))].getD 4 0) ∧ ej 94 = .int .u64 (a0.getD 4 0) ∧ ej 96 = .int .u64 ([0, (IntKind.u64.wrap (19 * (a1.getD 1 0))), (IntKind.u64.wrap (19 * (a1.getD 2 0))), (IntKind.u64.wrap (19 * (a1.getD 3 0))), (IntKind.u64.wrap (19 * (a1.getD 4 0)))].getD 3 0) ∧ ej 98 = .agg (ints .u64 (List.replicate 2 (0 : Int))).toArray ∧ ej 100 = .int .u64 (a0.getD 0 0) ∧ ej 102 = .int .u64 (a1.getD 3 0) ∧ ej 105 = .int .u64 (a0.getD 1 0) ∧ ej 107 = .int .u64 (a1.getD 2 0) ∧ ej 110 = .int .u64 (a0.getD 2 0) ∧ ej 112 = .int .u64 (a1.getD 1 0) ∧ ej 115 = .int .u64 (a0.getD 3 0) ∧ ej 117 = .int .u64 (a1.getD 0 0) ∧ ej 120 = .int .u64 (a0.getD 4 0) ∧ ej 122 = .int .u64 ([0, (IntKind.u64.wrap (19 * (a1.getD 1 0))), (IntKind.u64.wrap (19 * (a1.getD 2 0))), (IntKind.u64.wrap (19 * (a1.getD 3 0))), (IntKind.u64.wrap (19 * (a1.getD 4 0)))].getD 4 0) ∧ ej 124 = .agg (ints .u64 (List.replicate 2 (0 : Int))).toArray ∧ ej 126 = .int .u64 (a0.getD 0 0) ∧ ej 128 = .int .u64 (a1.getD 4 0) ∧ ej 131 = .int .u64 (a0.getD 1 0) ∧ ej 133 = .int .u64 (a1.getD 3 0) ∧ ej 136 = .int .u64 (a0.getD 2 0) ∧ ej 138 = .int .u64 (a1.getD 2 0) ∧ ej 141 = .int .u64 (a0.getD 3 0) ∧ ej 143 = .int .u64 (a1.getD 1 0) ∧ ej 146 = .int .u64 (a0.getD 4 0) ∧ ej 148 = .int .u64 (a1.getD 0 0) ∧ Hp w0 [] wj [⟨g1, 0, ints .u64 a0⟩, ⟨g2, 0, ints .u64 a1⟩, ⟨g3, 0, ints .u64 (List.replicate 5 (0 : Int))⟩, ⟨g4, 0, ints .u64 [0, (IntKind.u64.wrap (19 * (a1.getD 1 0))), (IntKind.u64.wrap (19 * (a1.getD 2 0))), (IntKind.u64.wrap (19 * (a1.getD 3 0))), (IntKind.u64.wrap (19 * (a1.getD 4 0)))]⟩, ⟨g30, 0, ints .u64 (List.replicate 10 (0 : Int))⟩] []) ?_ (fun T59 => ?_)
    · rintro ej59 w ⟨g30, lr80, f4_59, f6_59, f40_59, f42_59, f44_59, f46_59, f48_59, f50_59, f53_59, f55_59, f58_59, f60_59, f63_59, f65_59, f68_59, f70_59, f72_59, f74_59, f76_59, f79_59, f81_59, f84_59, f86_59, f89_59, f91_59, f94_59, f96_59, f98_59, f100_59, f102_59, f105_59, f107_59, f110_59, f112_59, f115_59, f117_59, f120_59, f122_59, f124_59, f126_59, f128_59, f131_59, f133_59, f136_59, f138_59, f141_59, f143_59, f146_59, f148_59, hp⟩
      refine k_call [.agg (ints .u64 r8).toArray, .int .u64 (a0.getD 4 0), .int .u64 ([0, (IntKind.u64.wrap (19 * (a1.getD 1 0))), (IntKind.u64.wrap (19 * (a1.getD 2 0))), (IntKind.u64.wrap (19 * (a1.getD 3 0))), (IntKind.u64.wrap (19 * (a1.getD 4 0)))].getD 1 0)] rfl (by kernel_rfl) (args3 f40_59 f42_59 f44_59) (field_wide_add_ok r8 (a0.getD 4 0) ([0, (IntKind.u64.wrap (19 * (a1.getD 1 0))), (IntKind.u64.wrap (19 * (a1.getD 2 0))), (IntKind.u64.wrap (19 * (a1.getD 3 0))), (IntKind.u64.wrap (19 * (a1.getD 4 0)))].getD 1 0) lr80 _ (hp.toR (fun _ h => by cases h)) qr9) ?_
      rintro _ w' ⟨_, rfl, rfl, lr90, hpc⟩
      refine ⟨_, rfl, .inr (.of_below hpc.chg.to_below), ?_⟩; have hp := hp.below hpc.chg.to_below; clear hpc
      exact T58 _ _ ⟨g30, lr90, f4_59, f6_59, rfl, f46_59, f48_59, f50_59, f53_59, f55_59, f58_59, f60_59, f63_59, f65_59, f68_59, f70_59, f72_59, f74_59, f76_59, f79_59, f81_59, f84_59, f86_59, f89_59, f91_59, f94_59, f96_59, f98_59, f100_59, f102_59, f105_59, f107_59, f110_59, f112_59, f115_59, f117_59, f120_59, f122_59, f124_59, f126_59, f128_59, f131_59, f133_59, f136_59, f138_59, f141_59, f143_59, f146_59, f148_59, hp⟩
    refine k_join (p := (.ef 20 (.ef 25 (.ef 31 (.ef 36 (.ef 41 (.ef 46 (.ef 51 (.ef 57 (.ef 62 (.ef 67 (.ef 72 (.ef 77 (.ef 83 (.ef 88 (.ef 93 (.ef 98 (.ef 103 (.ef 109 (.ef 114 (.ef 119 (.ef 124 (.ef 129 (.tp 130 (.ef 132 (.done)))))))))))))))))))))))))) (A := fun ej wj => ∃ g30 : Nat, r7.length = 2 ∧ ej 4 = .pointer (some ⟨g3, 0, none⟩) ∧ ej 6 = .pointer (some ⟨g30, 0, none⟩) ∧ ej 35 = .agg (ints .u64 r7).toArray ∧ ej 37 = .int .u64 (a0.getD 3 0) ∧ ej 39 = .int .u64 ([0, (IntKind.u64.wrap (19 * (a1.getD 1 0))), (IntKind.u64.wrap (19 * (a1.getD 2 0))), (IntKind.u64.wrap (19 * (a1.getD 3 0))), (IntKind.u64.wrap (19 * (a1.getD 4 0)))].getD 2 0) ∧ ej 42 = .int .u64 (a0.getD 4 0) ∧ ej 44 = .int .u64 ([0, (IntKind.u64.wrap (19 * (a1.getD 1 0))), (IntKind.u64.wrap (19 * (a1.getD 2 0))), (IntKind.u64.wrap (19 * (a1.getD 3 0))), (IntKind.u64.wrap (19 * (a1.getD 4 0)))].getD 1 0) ∧ ej 46 = .agg (ints .u64 (List.replicate 2 (0 : Int))).toArray ∧ ej 48 = .int .u64 (a0.getD 0 0) ∧ ej 50 = .int .u64 (a1.getD 1 0) ∧ ej 53 = .int .u64 (a0.getD 1 0) ∧ ej 55 = .int .u64 (a1.getD 0 0) ∧ ej 58 = .int .u64 (a0.getD 2 0) ∧ ej 60 = .int .u64 ([0, (IntKind.u64.wrap (19 * (a1.getD 1 0))), (IntKind.u64.wrap (19 * (a1.getD 2 0))), (IntKind.u64.wrap (19 * (a1.getD 3 0))), (IntKind.u64.wrap (19 * (a1.getD 4 0)))].getD 4 0) ∧ ej 63 = .int .u64 (a0.getD 3 0) ∧ ej 65 = .int .u64 ([0, (IntKind.u64.wrap (19 * (a1.getD 1 0))), (IntKind.u64.wrap (19 * (a1.getD 2 0))), (IntKind.u64.wrap (19 * (a1.getD 3 0))), (IntKind.u64.wrap (19 * (a1.getD 4 0)))].getD 3 0) ∧ ej 68 = .int .u64 (a0.getD 4 0) ∧ ej 70 = .int .u64 ([0, (IntKind.u64.wrap (19 * (a1.getD 1 0))), (IntKind.u64.wrap (19 * (a1.getD 2 0))), (IntKind.u64.wrap (19 * (a1.getD 3 0))), (IntKind.u64.wrap (19 * (a1.getD 4 0)))].getD 2 0) ∧ ej 72 = .agg (ints .u64 (List.replicate 2 (0 : Int))).toArray ∧ ej 74 = .int .u64 (a0.getD 0 0) ∧ ej 76 = .int .u64 (a1.getD 2 0) ∧ ej 79 = .int .u64 (a0.getD 1 0) ∧ ej 81 = .int .u64 (a1.getD 1 0) ∧ ej 84 = .int .u64 (a0.getD 2 0) ∧ ej 86 = .int .u64 (a1.getD 0 0) ∧ ej 89 = .int .u64 (a0.getD 3 0) ∧ ej 91 = .int .u64 ([0, (IntKind.u64.wrap (19 * (a1.getD 1 0))), (IntKind.u64.wrap (19 * (a1.getD 2 0))), (IntKind.u64.wrap (19 * (a1.getD 3 0))), (IntKind.u64.wrap (19 * (a1.getD 4 0)))].getD 4 0) ∧ ej 94 = .int .u64 (a0.getD 4 0) ∧ ej 96 = .int .u64 ([0, (IntKind.u64.wrap (19 * (a1.getD 1 0))), (IntKind.u64.wrap (19 * (a1.getD 2 0))), (IntKind.u64.wrap (19 * (a1.getD 3 0))), (IntKind.u64.wrap (19 * (a1.getD 4 0)))].getD 3 0) ∧ ej 98 = .agg (ints .u64 (List.replicate 2 (0 : Int))).toArray ∧ ej 100 = .int .u64 (a0.getD 0 0) ∧ ej 102 = .int .u64 (a1.getD 3 0) ∧ ej 105 = .int .u64 (a0.getD 1 0) ∧ ej 107 = .int .u64 (a1.getD 2 0) ∧ ej 110 = .int .u64 (a0.getD 2 0) ∧ ej 112 = .int .u64 (a1.getD 1 0) ∧ ej 115 = .int .u64 (a0.getD 3 0) ∧ ej 117 = .int .u64 (a1.getD 0 0) ∧ ej 120 = .int .u64 (a0.getD 4 0) ∧ ej 122 = .int .u64 ([0, (IntKind.u64.wrap (19 * (a1.getD 1 0))), (IntKind.u64.wrap (19 * (a1.getD 2 0))), (IntKind.u64.wrap (19 * (a1.getD 3 0))), (IntKind.u64.wrap (19 * (a1.getD 4 0)))].getD 4 0) ∧ ej 124 = .agg (ints .u64 (List.replicate 2 (0 : Int))).toArray ∧ ej 126 = .int .u64 (a0.getD 0 0) ∧ ej 128 = .int .u64 (a1.getD 4 0) ∧ ej 131 = .int .u64 (a0.getD 1 0) ∧ ej 133 = .int .u64 (a1.getD 3 0) ∧ ej 136 = .int .u64 (a0.getD 2 0) ∧ ej 138 = .int .u64 (a1.getD 2 0) ∧ ej 141 = .int .u64 (a0.getD 3 0) ∧ ej 143 = .int .u64 (a1.getD 1 0) ∧ ej 146 = .int .u64 (a0.getD 4 0) ∧ ej 148 = .int .u64 (a1.getD 0 0) ∧ Hp w0 [] wj [⟨g1, 0, ints .u64 a0⟩, ⟨g2, 0, ints .u64 a1⟩, ⟨g3, 0, ints .u64 (List.replicate 5 (0 : Int))⟩, ⟨g4, 0, ints .u64 [0, (IntKind.u64.wrap (19 * (a1.getD 1 0))), (IntKind.u64.wrap (19 * (a1.getD 2 0))), (IntKind.u64.wrap (19 * (a1.getD 3 0))), (IntKind.u64.wrap (19 * (a1.getD 4 0)))]⟩, ⟨g30, 0, ints .u64 (List.replicate 10 (0 : Int))⟩] []) ?_ (fun T60 => ?_)
    · rintro ej60 w ⟨g30, lr70, f4_60, f6_60, f35_60, f37_60, f39_60, f42_60, f44_60, f46_60, f48_60, f50_60, f53_60, f55_60, f58_60, f60_60, f63_60, f65_60, f68_60, f70_60, f72_60, f74_60, f76_60, f79_60, f81_60, f84_60, f86_60, f89_60, f91_60, f94_60, f96_60, f98_60, f100_60, f102_60, f105_60, f107_60, f110_60, f112_60, f115_60, f117_60, f120_60, f122_60, f124_60, f126_60, f128_60, f131_60, f133_60, f136_60, f138_60, f141_60, f143_60, f146_60, f148_60, hp⟩
      refine k_call [.agg (ints .u64 r7).toArray, .int .u64 (a0.getD 3 0), .int .u64 ([0, (IntKind.u64.wrap (19 * (a1.getD 1 0))), (IntKind.u64.wrap (19 * (a1.getD 2 0))), (IntKind.u64.wrap (19 * (a1.getD 3 0))), (IntKind.u64.wrap (19 * (a1.getD 4 0)))].getD 2 0)] rfl (by kernel_rfl) (args3 f35_60 f37_60 f39_60) (field_wide_add_ok r7 (a0.getD 3 0) ([0, (IntKind.u64.wrap (19 * (a1.getD 1 0))), (IntKind.u64.wrap (19 * (a1.getD 2 0))), (IntKind.u64.wrap (19 * (a1.getD 3 0))), (IntKind.u64.wrap (19 * (a1.getD 4 0)))].getD 2 0) lr70 _ (hp.toR (fun _ h => by cases h)) qr8) ?_
      rintro _ w' ⟨_, rfl, rfl, lr80, hpc⟩
      refine ⟨_, rfl, .inr (.of_below hpc.chg.to_below), ?_⟩; have hp := hp.below hpc.chg.to_below; clear hpc
      exact T59 _ _ ⟨g30, lr80, f4_60, f6_60, rfl, f42_60, f44_60, f46_60, f48_60, f50_60, f53_60, f55_60, f58_60, f60_60, f63_60, f65_60, f68_60, f70_60, f72_60, f74_60, f76_60, f79_60, f81_60, f84_60, f86_60, f89_60, f91_60, f94_60, f96_60, f98_60, f100_60, f102_60, f105_60, f107_60, f110_60, f112_60, f115_60, f117_60, f120_60, f122_60, f124_60, f126_60, f128_60, f131_60, f133_60, f136_60, f138_60, f141_60, f143_60, f146_60, f148_60, hp⟩
    refine k_join (p := (.ef 15 (.ef 20 (.ef 25 (.ef 31 (.ef 36 (.ef 41 (.ef 46 (.ef 51 (.ef 57 (.ef 62 (.ef 67 (.ef 72 (.ef 77 (.ef 83 (.ef 88 (.ef 93 (.ef 98 (.ef 103 (.ef 109 (.ef 114 (.ef 119 (.ef 124 (.ef 129 (.tp 130 (.ef 132 (.done))))))))))))))))))))))))))) (A := fun ej wj => ∃ g30 : Nat, r6.length = 2 ∧ ej 4 = .pointer (some ⟨g3, 0, none⟩) ∧ ej 6 = .pointer (some ⟨g30, 0, none⟩) ∧ ej 30 = .agg (ints .u64 r6).toArray ∧ ej 32 = .int .u64 (a0.getD 2 0) ∧ ej 34 = .int .u64 ([0, (IntKind.u64.wrap (19 * (a1.getD 1 0))), (IntKind.u64.wrap (19 * (a1.getD 2 0))), (IntKind.u64.wrap (19 * (a1.getD 3 0))), (IntKind.u64.wrap (19 * (a1.getD 4 0)))].getD 3 0) ∧ ej 37 = .int .u64 (a0.getD 3 0) ∧ ej 39 = .int .u64 ([0, (IntKind.u64.wrap (19 * (a1.getD 1 0))), (IntKind.u64.wrap (19 * (a1.getD 2 0))), (IntKind.u64.wrap (19 * (a1.getD 3 0))), (IntKind.u64.wrap (19 * (a1.getD 4 0)))].getD 2 0) ∧ ej 42 = .int .u64 (a0.getD 4 0) ∧ ej 44 = .int .u64 ([0, (IntKind.u64.wrap (19 * (a1.getD 1 0))), (IntKind.u64.wrap (19 * (a1.getD 2 0))), (IntKind.u64.wrap (19 * (a1.getD 3 0))), (IntKind.u64.wrap (19 * (a1.getD 4 0)))].getD 1 0) ∧ ej 46 = .agg (ints .u64 (List.replicate 2 (0 : Int))).toArray ∧ ej 48 = .int .u64 (a0.getD 0 0) ∧ ej 50 = .int .u64 (a1.getD 1 0) ∧ ej 53 = .int .u64 (a0.getD 1 0) ∧ ej 55 = .int .u64 (a1.getD 0 0) ∧ ej 58 = .int .u64 (a0.getD 2 0) ∧ ej 60 = .int .u64 ([0, (IntKind.u64.wrap (19 * (a1.getD 1 0))), (IntKind.u64.wrap (19 * (a1.getD 2 0))), (IntKind.u64.wrap (19 * (a1.getD 3 0))), (IntKind.u64.wrap (19 * (a1.getD 4 0)))].getD 4 0) ∧ ej 63 = .int .u64 (a0.getD 3 0) ∧ ej 65 = .int .u64 ([0, (IntKind.u64.wrap (19 * (a1.getD 1 0))), (IntKind.u64.wrap (19 * (a1.getD 2 0))), (IntKind.u64.wrap (19 * (a1.getD 3 0))), (IntKind.u64.wrap (19 * (a1.getD 4 0)))].getD 3 0) ∧ ej 68 = .int .u64 (a0.getD 4 0) ∧ ej 70 = .int .u64 ([0, (IntKind.u64.wrap (19 * (a1.getD 1 0))), (IntKind.u64.wrap (19 * (a1.getD 2 0))), (IntKind.u64.wrap (19 * (a1.getD 3 0))), (IntKind.u64.wrap (19 * (a1.getD 4 0)))].getD 2 0) ∧ ej 72 = .agg (ints .u64 (List.replicate 2 (0 : Int))).toArray ∧ ej 74 = .int .u64 (a0.getD 0 0) ∧ ej 76 = .int .u64 (a1.getD 2 0) ∧ ej 79 = .int .u64 (a0.getD 1 0) ∧ ej 81 = .int .u64 (a1.getD 1 0) ∧ ej 84 = .int .u64 (a0.getD 2 0) ∧ ej 86 = .int .u64 (a1.getD 0 0) ∧ ej 89 = .int .u64 (a0.getD 3 0) ∧ ej 91 = .int .u64 ([0, (IntKind.u64.wrap (19 * (a1.getD 1 0))), (IntKind.u64.wrap (19 * (a1.getD 2 0))), (IntKind.u64.wrap (19 * (a1.getD 3 0))), (IntKind.u64.wrap (19 * (a1.getD 4 0)))].getD 4 0) ∧ ej 94 = .int .u64 (a0.getD 4 0) ∧ ej 96 = .int .u64 ([0, (IntKind.u64.wrap (19 * (a1.getD 1 0))), (IntKind.u64.wrap (19 * (a1.getD 2 0))), (IntKind.u64.wrap (19 * (a1.getD 3 0))), (IntKind.u64.wrap (19 * (a1.getD 4 0)))].getD 3 0) ∧ ej 98 = .agg (ints .u64 (List.replicate 2 (0 : Int))).toArray ∧ ej 100 = .int .u64 (a0.getD 0 0) ∧ ej 102 = .int .u64 (a1.getD 3 0) ∧ ej 105 = .int .u64 (a0.getD 1 0) ∧ ej 107 = .int .u64 (a1.getD 2 0) ∧ ej 110 = .int .u64 (a0.getD 2 0) ∧ ej 112 = .int .u64 (a1.getD 1 0) ∧ ej 115 = .int .u64 (a0.getD 3 0) ∧ ej 117 = .int .u64 (a1.getD 0 0) ∧ ej 120 = .int .u64 (a0.getD 4 0) ∧ ej 122 = .int .u64 ([0, (IntKind.u64.wrap (19 * (a1.getD 1 0))), (IntKind.u64.wrap (19 * (a1.getD 2 0))), (IntKind.u64.wrap (19 * (a1.getD 3 0))), (IntKind.u64.wrap (19 * (a1.getD 4 0)))].getD 4 0) ∧ ej 124 = .agg (ints .u64 (List.replicate 2 (0 : Int))).toArray ∧ ej 126 = .int .u64 (a0.getD 0 0) ∧ ej 128 = .int .u64 (a1.getD 4 0) ∧ ej 131 = .int .u64 (a0.getD 1 0) ∧ ej 133 = .int .u64 (a1.getD 3 0) ∧ ej 136 = .int .u64 (a0.getD 2 0) ∧ ej 138 = .int .u64 (a1.getD 2 0) ∧ ej 141 = .int .u64 (a0.getD 3 0) ∧ ej 143 = .int .u64 (a1.getD 1 0) ∧ ej 146 = .int .u64 (a0.getD 4 0) ∧ ej 148 = .int .u64 (a1.getD 0 0) ∧ Hp w0 [] wj [⟨g1, 0, ints .u64 a0⟩, ⟨g2, 0, ints .u64 a1⟩, ⟨g3, 0, ints .u64 (List.replicate 5 (0 : Int))⟩, ⟨g4, 0, ints .u64 [0, (IntKind.u64.wrap (19 * (a1.getD 1 0))), (IntKind.u64.wrap (19 * (a1.getD 2 0))), (IntKind.u64.wrap (19 * (a1.getD 3 0))), (IntKind.u64.wrap (19 * (a1.getD 4 0)))]⟩, ⟨g30, 0, ints .u64 (List.replicate 10 (0 : Int))⟩] []) ?_ (fun T61 => ?_)
    · rintro ej61 w ⟨g30, lr60, f4_61, f6_61, f30_61, f32_61, f34_61, f37_61, f39_61, f42_61, f44_61, f46_61, f48_61, f50_61, f53_61, f55_61, f58_61, f60_61, f63_61, f65_61, f68_61, f70_61, f72_61, f74_61, f76_61, f79_61, f81_61, f84_61, f86_61, f89_61, f91_61, f94_61, f96_61, f98_61, f100_61, f102_61, f105_61, f107_61, f110_61, f112_61, f115_61, f117_61, f120_61, f122_61, f124_61, f126_61, f128_61, f131_61, f133_61, f136_61, f138_61, f141_61, f143_61, f146_61, f148_61, hp⟩
      refine k_call [.agg (ints .u64 r6).toArray, .int .u64 (a0.getD 2 0), .int .u64 ([0, (IntKind.u64.wrap (19 * (a1.getD 1 0))), (IntKind.u64.wrap (19 * (a1.getD 2 0))), (IntKind.u64.wrap (19 * (a1.getD 3 0))), (IntKind.u64.wrap (19 * (a1.getD 4 0)))].getD 3 0)] rfl (by kernel_rfl) (args3 f30_61 f32_61 f34_61) (field_wide_add_ok r6 (a0.getD 2 0) ([0, (IntKind.u64.wrap (19 * (a1.getD 1 0))), (IntKind.u64.wrap (19 * (a1.getD 2 0))), (IntKind.u64.wrap (19 * (a1.getD 3 0))), (IntKind.u64.wrap (19 * (a1.getD 4 0)))].getD 3 0) lr60 _ (hp.toR (fun _ h => by cases h)) qr7) ?_
      rintro _ w' ⟨_, rfl, rfl, lr70, hpc⟩
      refine ⟨_, rfl, .inr (.of_below hpc.chg.to_below), ?_⟩; have hp := hp.below hpc.chg.to_below; clear hpc
      exact T60 _ _ ⟨g30, lr70, f4_61, f6_61, rfl, f37_61, f39_61, f42_61, f44_61, f46_61, f48_61, f50_61, f53_61, f55_61, f58_61, f60_61, f63_61, f65_61, f68_61, f70_61, f72_61, f74_61, f76_61, f79_61, f81_61, f84_61, f86_61, f89_61, f91_61, f94_61, f96_61, f98_61, f100_61, f102_61, f105_61, f107_61, f110_61, f112_61, f115_61, f117_61, f120_61, f122_61, f124_61, f126_61, f128_61, f131_61, f133_61, f136_61, f138_61, f141_61, f143_61, f146_61, f148_61, hp⟩
    refine k_join (p := (.ef 10 (.ef 15 (.ef 20 (.ef 25 (.ef 31 (.ef 36 (.ef 41 (.ef 46 (.ef 51 (.ef 57 (.ef 62 (.ef 67 (.ef 72 (.ef 77 (.ef 83 (.ef 88 (.ef 93 (.ef 98 (.ef 103 (.ef 109 (.ef 114 (.ef 119 (.ef 124 (.ef 129 (.tp 130 (.ef 132 (.done)))))))))))))))))))))))))))) (A := fun ej wj => ∃ g30 : Nat, r5.length = 2 ∧ ej 4 = .pointer (some ⟨g3, 0, none⟩) ∧ ej 6 = .pointer (some ⟨g30, 0, none⟩) ∧ ej 25 = .agg (ints .u64 r5).toArray ∧ ej 27 = .int .u64 (a0.getD 1 0) ∧ ej 29 = .int .u64 ([0, (IntKind.u64.wrap (19 * (a1.getD 1 0))), (IntKind.u64.wrap (19 * (a1.getD 2 0))), (IntKind.u64.wrap (19 * (a1.getD 3 0))), (IntKind.u64.wrap (19 * (a1.getD 4 0)))].getD 4 0) ∧ ej 32 = .int .u64 (a0.getD 2 0) ∧ ej 34 = .int .u64 ([0, (IntKind.u64.wrap (19 * (a1.getD 1 0))), (IntKind.u64.wrap (19 * (a1.getD 2 0))), (IntKind.u64.wrap (19 * (a1.getD 3 0))), (IntKind.u64.wrap (19 * (a1.getD 4 0)))].getD 3 0) ∧ ej 37 = .int .u64 (a0.getD 3 0) ∧ ej 39 = .int .u64 ([0, (IntKind.u64.wrap (19 * (a1.getD 1 0))), (IntKind.u64.wrap (19 * (a1.getD 2 0))), (IntKind.u64.wrap (19 * (a1.getD 3 0))), (IntKind.u64.wrap (19 * (a1.getD 4 0)))].getD 2 0) ∧ ej 42 = .int .u64 (a0.getD 4 0) ∧ ej 44 = .int .u64 ([0, (IntKind.u64.wrap (19 * (a1.getD 1 0))), (IntKind.u64.wrap (19 * (a1.getD 2 0))), (IntKind.u64.wrap (19 * (a1.getD 3 0))), (IntKind.u64.wrap (19 * (a1.getD 4 0)))].getD 1 0) ∧ ej 46 = .agg (ints .u64 (List.replicate 2 (0 : Int))).toArray ∧ ej 48 = .int .u64 (a0.getD 0 0) ∧ ej 50 = .int .u64 (a1.getD 1 0) ∧ ej 53 = .int .u64 (a0.getD 1 0) ∧ ej 55 = .int .u64 (a1.getD 0 0) ∧ ej 58 = .int .u64 (a0.getD 2 0) ∧ ej 60 = .int .u64 ([0, (IntKind.u64.wrap (19 * (a1.getD 1 0))), (IntKind.u64.wrap (19 * (a1.getD 2 0))), (IntKind.u64.wrap (19 * (a1.getD 3 0))), (IntKind.u64.wrap (19 * (a1.getD 4 0)))].getD 4 0) ∧ ej 63 = .int .u64 (a0.getD 3 0) ∧ ej 65 = .int .u64 ([0, (IntKind.u64.wrap (19 * (a1.getD 1 0))), (IntKind.u64.wrap (19 * (a1.getD 2 0))), (IntKind.u64.wrap (19 * (a1.getD 3 0))), (IntKind.u64.wrap (19 * (a1.getD 4 0)))].getD 3 0) ∧ ej 68 = .int .u64 (a0.getD 4 0) ∧ ej 70 = .int .u64 ([0, (IntKind.u64.wrap (19 * (a1.getD 1 0))), (IntKind.u64.wrap (19 * (a1.getD 2 0))), (IntKind.u64.wrap (19 * (a1.getD 3 0))), (IntKind.u64.wrap (19 * (a1.getD 4 0)))].getD 2 0) ∧ ej 72 = .agg (ints .u64 (List.replicate 2 (0 : Int))).toArray ∧ ej 74 = .int .u64 (a0.getD 0 0) ∧ ej 76 = .int .u64 (a1.getD 2 0) ∧ ej 79 = .int .u64 (a0.getD 1 0) ∧ ej 81 = .int .u64 (a1.getD 1 0) ∧ ej 84 = .int .u64 (a0.getD 2 0) ∧ ej 86 = .int .u64 (a1.getD 0 0) ∧ ej 89 = .int .u64 (a0.getD 3 0) ∧ ej 91 = .int .u64 ([0, (IntKind.u64.wrap (19 * (a1.getD 1 0))), (IntKind.u64.wrap (19 * (a1.getD 2 0))), (IntKind.u64.wrap (19 * (a1.getD 3 0))), (IntKind.u64.wrap (19 * (a1.getD 4 0)))].getD 4 0) ∧ ej 94 = .int .u64 (a0.getD 4 0) ∧ ej 96 = .int .u64 ([0, (IntKind.u64.wrap (19 * (a1.getD 1 0))), (IntKind.u64.wrap (19 * (a1.getD 2 0))), (IntKind.u64.wrap (19 * (a1.getD 3 0))), (IntKind.u64.wrap (19 * (a1.getD 4 0)))].getD 3 0) ∧ ej 98 = .agg (ints .u64 (List.replicate 2 (0 : Int))).toArray ∧ ej 100 = .int .u64 (a0.getD 0 0) ∧ ej 102 = .int .u64 (a1.getD 3 0) ∧ ej 105 = .int .u64 (a0.getD 1 0) ∧ ej 107 = .int .u64 (a1.getD 2 0) ∧ ej 110 = .int .u64 (a0.getD 2 0) ∧ ej 112 = .int .u64 (a1.getD 1 0) ∧ ej 115 = .int .u64 (a0.getD 3 0) ∧ ej 117 = .int .u64 (a1.getD 0 0) ∧ ej 120 = .int .u64 (a0.getD 4 0) ∧ ej 122 = .int .u64 ([0, (IntKind.u64.wrap (19 * (a1.getD 1 0))), (IntKind.u64.wrap (19 * (a1.getD 2 0))), (IntKind.u64.wrap (19 * (a1.getD 3 0))), (IntKind.u64.wrap (19 * (a1.getD 4 0)))].getD 4 0) ∧ ej 124 = .agg (ints .u64 (List.replicate 2 (0 : Int))).toArray ∧ ej 126 = .int .u64 (a0.getD 0 0) ∧ ej 128 = .int .u64 (a1.getD 4 0) ∧ ej 131 = .int .u64 (a0.getD 1 0) ∧ ej 133 = .int .u64 (a1.getD 3 0) ∧ ej 136 = .int .u64 (a0.getD 2 0) ∧ ej 138 = .int .u64 (a1.getD 2 0) ∧ ej 141 = .int .u64 (a0.getD 3 0) ∧ ej 143 = .int .u64 (a1.getD 1 0) ∧ ej 146 = .int .u64 (a0.getD 4 0) ∧ ej 148 = .int .u64 (a1.getD 0 0) ∧ Hp w0 [] wj [⟨g1, 0, ints .u64 a0⟩, ⟨g2, 0, ints .u64 a1⟩, ⟨g3, 0, ints .u64 (List.replicate 5 (0 : Int))⟩, ⟨g4, 0, ints .u64 [0, (IntKind.u64.wrap (19 * (a1.getD 1 0))), (IntKind.u64.wrap (19 * (a1.getD 2 0))), (IntKind.u64.wrap (19 * (a1.getD 3 0))), (IntKind.u64.wrap (19 * (a1.getD 4 0)))]⟩, ⟨g30, 0, ints .u64 (List.replicate 10 (0 : Int))⟩] []) ?_ (fun T62 => ?_)
    · rintro ej62 w ⟨g30, lr50, f4_62, f6_62, f25_62, f27_62, f29_62, f32_62, f34_62, f37_62, f39_62, f42_62, f44_62, f46_62, f48_62, f50_62, f53_62, f55_62, f58_62, f60_62, f63_62, f65_62, f68_62, f70_62, f72_62, f74_62, f76_62, f79_62, f81_62, f84_62, f86_62, f89_62, f91_62, f94_62, f96_62, f98_62, f100_62, f102_62, f105_62, f107_62, f110_62, f112_62, f115_62, f117_62, f120_62, f122_62, f124_62, f126_62, f128_62, f131_62, f133_62, f136_62, f138_62, f141_62, f143_62, f146_62, f148_62, hp⟩
      refine k_call [.agg (ints .u64 r5).toArray, .int .u64 (a0.getD 1 0), .int .u64 ([0, (IntKind.u64.wrap (19 * (a1.getD 1 0))), (IntKind.u64.wrap (19 * (a1.getD 2 0))), (IntKind.u64.wrap (19 * (a1.getD 3 0))), (IntKind.u64.wrap (19 * (a1.getD 4 0)))].getD 4 0)] rfl (by kernel_rfl) (args3 f25_62 f27_62 f29_62) (field_wide_add_ok r5 (a0.getD 1 0) ([0, (IntKind.u64.wrap (19 * (a1.getD 1 0))), (IntKind.u64.wrap (19 * (a1.getD 2 0))), (IntKind.u64.wrap (19 * (a1.getD 3 0))), (IntKind.u64.wrap (19 * (a1.getD 4 0)))].getD 4 0) lr50 _ (hp.toR (fun _ h => by cases h)) qr6) ?_
      rintro _ w' ⟨_, rfl, rfl, lr60, hpc⟩
      refine ⟨_, rfl, .inr (.of_below hpc.chg.to_below), ?_⟩; have hp := hp.below hpc.chg.to_below; clear hpc
      exact T61 _ _ ⟨g30, lr60, f4_62, f6_62, rfl, f32_62, f34_62, f37_62, f39_62, f42_62, f44_62, f46_62, f48_62, f50_62, f53_62, f55_62, f58_62, f60_62, f63_62, f65_62, f68_62, f70_62, f72_62, f74_62, f76_62, f79_62, f81_62, f84_62, f86_62, f89_62, f91_62, f94_62, f96_62, f98_62, f100_62, f102_62, f105_62, f107_62, f110_62, f112_62, f115_62, f117_62, f120_62, f122_62, f124_62, f126_62, f128_62, f131_62, f133_62, f136_62, f138_62, f141_62, f143_62, f146_62, f148_62, hp⟩
    refine k_build (v := .agg (ints .u64 (List.replicate 2 (0 : Int))).toArray) rfl (fun _ => by kernel_rfl) ?_
    refine k_indexA (n := 5) (s := 1) (j := 0) rfl Try.underlying34 (by kernel_rfl) s2_e36 rfl (by decide) ?_
    refine k_load (j := 0) (v := .int .u64 (a0.getD 0 0)) rfl (by kernel_rfl) rfl (hp.get (j := 0) rfl) rfl rfl (ints_get (Nat.lt_of_lt_of_eq (m := 5) (by decide) (la0).symm)) ?_
    refine k_indexA (n := 5) (s := 1) (j := 0) rfl Try.underlying34 (by kernel_rfl) s3_e36 rfl (by decide) ?_
    refine k_load (j := 0) (v := .int .u64 (a1.getD 0 0)) rfl (by kernel_rfl) rfl (hp.get (j := 1) rfl) rfl rfl (ints_get (Nat.lt_of_lt_of_eq (m := 5) (by decide) (la1).symm)) ?_
    refine k_indexA (n := 5) (s := 1) (j := 1) rfl Try.underlying34 (by kernel_rfl) s2_e36 rfl (by decide) ?_
    refine k_load (j := 1) (v := .int .u64 (a0.getD 1 0)) rfl (by kernel_rfl) rfl (hp.get (j := 0) rfl) rfl rfl (ints_get (Nat.lt_of_lt_of_eq (m := 5) (by decide) (la0).symm)) ?_
    refine k_indexA (n := 5) (s := 1) (j := 4) rfl Try.underlying33 (by kernel_rfl) s5_e36 rfl (by decide) ?_
    refine k_load (j := 4) (v := .int .u64 ([0, (IntKind.u64.wrap (19 * (a1.getD 1 0))), (IntKind.u64.wrap (19 * (a1.getD 2 0))), (IntKind.u64.wrap (19 * (a1.getD 3 0))), (IntKind.u64.wrap (19 * (a1.getD 4 0)))].getD 4 0)) rfl (by kernel_rfl) rfl (hp.get (j := 3) rfl) rfl rfl (ints_get (Nat.lt_of_lt_of_eq (m := 5) (by decide) (rfl : List.length ([0, (IntKind.u64.wrap (19 * (a1.getD 1 0))), (IntKind.u64.wrap (19 * (a1.getD 2 0))), (IntKind.u64.wrap (19 * (a1.getD 3 0))), (IntKind.u64.wrap (19 * (a1.getD 4 0)))] : List Int) = 5).symm)) ?_
    refine k_indexA (n := 5) (s := 1) (j := 2) rfl Try.underlying34 (by kernel_rfl) s2_e36 rfl (by decide) ?_
    refine k_load (j := 2) (v := .int .u64 (a0.getD 2 0)) rfl (by kernel_rfl) rfl (hp.get (j := 0) rfl) rfl rfl (ints_get (Nat.lt_of_lt_of_eq (m := 5) (by decide) (la0).symm)) ?_
    refine k_indexA (n := 5) (s := 1) (j := 3) rfl Try.underlying33 (by kernel_rfl) s5_e36 rfl (by decide) ?_
    refine k_load (j := 3) (v := .int .u64 ([0, (IntKind.u64.wrap (19 * (a1.getD 1 0))), (IntKind.u64.wrap (19 * (a1.getD 2 0))), (IntKind.u64.wrap (19 * (a1.getD 3 0))), (IntKind.u64.wrap (19 * (a1.getD 4 0)))].getD 3 0)) rfl (by kernel_rfl) rfl (hp.get (j := 3) rfl) rfl rfl (ints_get (Nat.lt_of_lt_of_eq (m := 5) (by decide) (rfl : List.length ([0, (IntKind.u64.wrap (19 * (a1.getD 1 0))), (IntKind.u64.wrap (19 * (a1.getD 2 0))), (IntKind.u64.wrap (19 * (a1.getD 3 0))), (IntKind.u64.wrap (19 * (a1.getD 4 0)))] : List Int) = 5).symm)) ?_
    refine k_indexA (n := 5) (s := 1) (j := 3) rfl Try.underlying34 (by kernel_rfl) s2_e36 rfl (by decide) ?_
    refine k_load (j := 3) (v := .int .u64 (a0.getD 3 0)) rfl (by kernel_rfl) rfl (hp.get (j := 0) rfl) rfl rfl (ints_get (Nat.lt_of_lt_of_eq (m := 5) (by decide) (la0).symm)) ?_
    refine k_indexA (n := 5) (s := 1) (j := 2) rfl Try.underlying33 (by kernel_rfl) s5_e36 rfl (by decide) ?_
    refine k_load (j := 2) (v := .int .u64 ([0, (IntKind.u64.wrap (19 * (a1.getD 1 0))), (IntKind.u64.wrap (19 * (a1.getD 2 0))), (IntKind.u64.wrap (19 * (a1.getD 3 0))), (IntKind.u64.wrap (19 * (a1.getD 4 0)))].getD 2 0)) rfl (by kernel_rfl) rfl (hp.get (j := 3) rfl) rfl rfl (ints_get (Nat.lt_of_lt_of_eq (m := 5) (by decide) (rfl : List.length ([0, (IntKind.u64.wrap (19 * (a1.getD 1 0))), (IntKind.u64.wrap (19 * (a1.getD 2 0))), (IntKind.u64.wrap (19 * (a1.getD 3 0))), (IntKind.u64.wrap (19 * (a1.getD 4 0)))] : List Int) = 5).symm)) ?_
    refine k_indexA (n := 5) (s := 1) (j := 4) rfl Try.underlying34 (by kernel_rfl) s2_e36 rfl (by decide) ?_
    refine k_load (j := 4) (v := .int .u64 (a0.getD 4 0)) rfl (by kernel_rfl) rfl (hp.get (j := 0) rfl) rfl rfl (ints_get (Nat.lt_of_lt_of_eq (m := 5) (by decide) (la0).symm)) ?_
    refine k_indexA (n := 5) (s := 1) (j := 1) rfl Try.underlying33 (by kernel_rfl) s5_e36 rfl (by decide) ?_
    refine k_load (j := 1) (v := .int .u64 ([0, (IntKind.u64.wrap (19 * (a1.getD 1 0))), (IntKind.u64.wrap (19 * (a1.getD 2 0))), (IntKind.u64.wrap (19 * (a1.getD 3 0))), (IntKind.u64.wrap (19 * (a1.getD 4 0)))].getD 1 0)) rfl (by kernel_rfl) rfl (hp.get (j := 3) rfl) rfl rfl (ints_get (Nat.lt_of_lt_of_eq (m := 5) (by decide) (rfl : List.length ([0, (IntKind.u64.wrap (19 * (a1.getD 1 0))), (IntKind.u64.wrap (19 * (a1.getD 2 0))), (IntKind.u64.wrap (19 * (a1.getD 3 0))), (IntKind.u64.wrap (19 * (a1.getD 4 0)))] : List Int) = 5).symm)) ?_
    refine k_build (v := .agg (ints .u64 (List.replicate 2 (0 : Int))).toArray) rfl (fun _ => by kernel_rfl) ?_
    refine k_indexA (n := 5) (s := 1) (j := 0) rfl Try.underlying34 (by kernel_rfl) s2_e36 rfl (by decide) ?_
    refine k_load (j := 0) (v := .int .u64 (a0.getD 0 0)) rfl (by kernel_rfl) rfl (hp.get (j := 0) rfl) rfl rfl (ints_get (Nat.lt_of_lt_of_eq (m := 5) (by decide) (la0).symm)) ?_
    refine k_indexA (n := 5) (s := 1) (j := 1) rfl Try.underlying34 (by kernel_rfl) s3_e36 rfl (by decide) ?_
    refine k_load (j := 1) (v := .int .u64 (a1.getD 1 0)) rfl (by kernel_rfl) rfl (hp.get (j := 1) rfl) rfl rfl (ints_get (Nat.lt_of_lt_of_eq (m := 5) (by decide) (la1).symm)) ?_
    refine k_indexA (n := 5) (s := 1) (j := 1) rfl Try.underlying34 (by kernel_rfl) s2_e36 rfl (by decide) ?_
    refine k_load (j := 1) (v := .int .u64 (a0.getD 1 0)) rfl (by kernel_rfl) rfl (hp.get (j := 0) rfl) rfl rfl (ints_get (Nat.lt_of_lt_of_eq (m := 5) (by decide) (la0).symm)) ?_
    refine k_indexA (n := 5) (s := 1) (j := 0) rfl Try.underlying34 (by kernel_rfl) s3_e36 rfl (by decide) ?_
    refine k_load (j := 0) (v := .int .u64 (a1.getD 0 0)) rfl (by kernel_rfl) rfl (hp.get (j := 1) rfl) rfl rfl (ints_get (Nat.lt_of_lt_of_eq (m := 5) (by decide) (la1).symm)) ?_
    refine k_indexA (n := 5) (s := 1) (j := 2) rfl Try.underlying34 (by kernel_rfl) s2_e36 rfl (by decide) ?_
    refine k_load (j := 2) (v := .int .u64 (a0.getD 2 0)) rfl (by kernel_rfl) rfl (hp.get (j := 0) rfl) rfl rfl (ints_get (Nat.lt_of_lt_of_eq (m := 5) (by decide) (la0).symm)) ?_
    refine k_indexA (n := 5) (s := 1) (j := 4) rfl Try.underlying33 (by kernel_rfl) s5_e36 rfl (by decide) ?_
    refine k_load (j := 4) (v := .int .u64 ([0, (IntKind.u64.wrap (19 * (a1.getD 1 0))), (IntKind.u64.wrap (19 * (a1.getD 2 0))), (IntKind.u64.wrap (19 * (a1.getD 3 0))), (IntKind.u64.wrap (19 * (a1.getD 4 0)))].getD 4 0)) rfl (by kernel_rfl) rfl (hp.get (j := 3) rfl) rfl rfl (ints_get (Nat.lt_of_lt_of_eq (m := 5) (by decide) (rfl : List.length ([0, (IntKind.u64.wrap (19 * (a1.getD 1 0))), (IntKind.u64.wrap (19 * (a1.getD 2 0))), (IntKind.u64.wrap (19 * (a1.getD 3 0))), (IntKind.u64.wrap (19 * (a1.getD 4 0)))] : List Int) = 5).symm)) ?_
    refine k_indexA (n := 5) (s := 1) (j := 3) rfl Try.underlying34 (by kernel_rfl) s2_e36 rfl (by decide) ?_
    refine k_load (j := 3) (v := .int .u64 (a0.getD 3 0)) rfl (by kernel_rfl) rfl (hp.get (j := 0) rfl) rfl rfl (ints_get (Nat.lt_of_lt_of_eq (m := 5) (by decide) (la0).symm)) ?_
    refine k_indexA (n := 5) (s := 1) (j := 3) rfl Try.underlying33 (by kernel_rfl) s5_e36 rfl (by decide) ?_
    refine k_load (j := 3) (v := .int .u64 ([0, (IntKind.u64.wrap (19 * (a1.getD 1 0))), (IntKind.u64.wrap (19 * (a1.getD 2 0))), (IntKind.u64.wrap (19 * (a1.getD 3 0))), (IntKind.u64.wrap (19 * (a1.getD 4 0)))].getD 3 0)) rfl (by kernel_rfl) rfl (hp.get (j := 3) rfl) rfl rfl (ints_get (Nat.lt_of_lt_of_eq (m := 5) (by decide) (rfl : List.length ([0, (IntKind.u64.wrap (19 * (a1.getD 1 0))), (IntKind.u64.wrap (19 * (a1.getD 2 0))), (IntKind.u64.wrap (19 * (a1.getD 3 0))), (IntKind.u64.wrap (19 * (a1.getD 4 0)))] : List Int) = 5).symm)) ?_
    refine k_indexA (n := 5) (s := 1) (j := 4) rfl Try.underlying34 (by kernel_rfl) s2_e36 rfl (by decide) ?_
    refine k_load (j := 4) (v := .int .u64 (a0.getD 4 0)) rfl (by kernel_rfl) rfl (hp.get (j := 0) rfl) rfl rfl (ints_get (Nat.lt_of_lt_of_eq (m := 5) (by decide) (la0).symm)) ?_
    refine k_indexA (n := 5) (s := 1) (j := 2) rfl Try.underlying33 (by kernel_rfl) s5_e36 rfl (by decide) ?_
    refine k_load (j := 2) (v := .int .u64 ([0, (IntKind.u64.wrap (19 * (a1.getD 1 0))), (IntKind.u64.wrap (19 * (a1.getD 2 0))), (IntKind.u64.wrap (19 * (a1.getD 3 0))), (IntKind.u64.wrap (19 * (a1.getD 4 0)))].getD 2 0)) rfl (by kernel_rfl) rfl (hp.get (j := 3) rfl) rfl rfl (ints_get (Nat.lt_of_lt_of_eq (m := 5) (by decide) (rfl : List.length ([0, (IntKind.u64.wrap (19 * (a1.getD 1 0))), (IntKind.u64.wrap (19 * (a1.getD 2 0))), (IntKind.u64.wrap (19 * (a1.getD 3 0))), (IntKind.u64.wrap (19 * (a1.getD 4 0)))] : List Int) = 5).symm)) ?_
    refine k_build (v := .agg (ints .u64 (List.replicate 2 (0 : Int))).toArray) rfl (fun _ => by kernel_rfl) ?_
    refine k_indexA (n := 5) (s := 1) (j := 0) rfl Try.underlying34 (by kernel_rfl) s2_e36 rfl (by decide) ?_
    refine k_load (j := 0) (v := .int .u64 (a0.getD 0 0)) rfl (by kernel_rfl) rfl (hp.get (j := 0) rfl) rfl rfl (ints_get (Nat.lt_of_lt_of_eq (m := 5) (by decide) (la0).symm)) ?_
    refine k_indexA (n := 5) (s := 1) (j := 2) rfl Try.underlying34 (by kernel_rfl) s3_e36 rfl (by decide) ?_
    refine k_load (j := 2) (v := .int .u64 (a1.getD 2 0)) rfl (by kernel_rfl) rfl (hp.get (j := 1) rfl) rfl rfl (ints_get (Nat.lt_of_lt_of_eq (m := 5) (by decide) (la1).symm)) ?_
    refine k_indexA (n := 5) (s := 1) (j := 1) rfl Try.underlying34 (by kernel_rfl) s2_e36 rfl (by decide) ?_
    refine k_load (j := 1) (v := .int .u64 (a0.getD 1 0)) rfl (by kernel_rfl) rfl (hp.get (j := 0) rfl) rfl rfl (ints_get (Nat.lt_of_lt_of_eq (m := 5) (by decide) (la0).symm)) ?_
    refine k_indexA (n := 5) (s := 1) (j := 1) rfl Try.underlying34 (by kernel_rfl) s3_e36 rfl (by decide) ?_
    refine k_load (j := 1) (v := .int .u64 (a1.getD 1 0)) rfl (by kernel_rfl) rfl (hp.get (j := 1) rfl) rfl rfl (ints_get (Nat.lt_of_lt_of_eq (m := 5) (by decide) (la1).symm)) ?_
    refine k_indexA (n := 5) (s := 1) (j := 2) rfl Try.underlying34 (by kernel_rfl) s2_e36 rfl (by decide) ?_
    refine k_load (j := 2) (v := .int .u64 (a0.getD 2 0)) rfl (by kernel_rfl) rfl (hp.get (j := 0) rfl) rfl rfl (ints_get (Nat.lt_of_lt_of_eq (m := 5) (by decide) (la0).symm)) ?_
    refine k_indexA (n := 5) (s := 1) (j := 0) rfl Try.underlying34 (by kernel_rfl) s3_e36 rfl (by decide) ?_
    refine k_load (j := 0) (v := .int .u64 (a1.getD 0 0)) rfl (by kernel_rfl) rfl (hp.get (j := 1) rfl) rfl rfl (ints_get (Nat.lt_of_lt_of_eq (m := 5) (by decide) (la1).symm)) ?_
    refine k_indexA (n := 5) (s := 1) (j := 3) rfl Try.underlying34 (by kernel_rfl) s2_e36 rfl (by decide) ?_
    refine k_load (j := 3) (v := .int .u64 (a0.getD 3 0)) rfl (by kernel_rfl) rfl (hp.get (j := 0) rfl) rfl rfl (ints_get (Nat.lt_of_lt_of_eq (m := 5) (by decide) (la0).symm)) ?_
    refine k_indexA (n := 5) (s := 1) (j := 4) rfl Try.underlying33 (by kernel_rfl) s5_e36 rfl (by decide) ?_
    refine k_load (j := 4) (v := .int .u64 ([0, (IntKind.u64.wrap (19 * (a1.getD 1 0))), (IntKind.u64.wrap (19 * (a1.getD 2 0))), (IntKind.u64.wrap (19 * (a1.getD 3 0))), (IntKind.u64.wrap (19 * (a1.getD 4 0)))].getD 4 0)) rfl (by kernel_rfl) rfl (hp.get (j := 3) rfl) rfl rfl (ints_get (Nat.lt_of_lt_of_eq (m := 5) (by decide) (rfl : List.length ([0, (IntKind.u64.wrap (19 * (a1.getD 1 0))), (IntKind.u64.wrap (19 * (a1.getD 2 0))), (IntKind.u64.wrap (19 * (a1.getD 3 0))), (IntKind.u64.wrap (19 * (a1.getD 4 0)))] : List Int) = 5).symm)) ?_
    refine k_indexA (n := 5) (s := 1) (j := 4) rfl Try.underlying34 (by kernel_rfl) s2_e36 rfl (by decide) ?_
    refine k_load (j := 4) (v := .int .u64 (a0.getD 4 0)) rfl (by kernel_rfl) rfl (hp.get (j := 0) rfl) rfl rfl (ints_get (Nat.lt_of_lt_of_eq (m := 5) (by decide) (la0).symm)) ?_
    refine k_indexA (n := 5) (s := 1) (j := 3) rfl Try.underlying33 (by kernel_rfl) s5_e36 rfl (by decide) ?_
    refine k_load (j := 3) (v := .int .u64 ([0, (IntKind.u64.wrap (19 * (a1.getD 1 0))), (IntKind.u64.wrap (19 * (a1.getD 2 0))), (IntKind.u64.wrap (19 * (a1.getD 3 0))), (IntKind.u64.wrap (19 * (a1.getD 4 0)))].getD 3 0)) rfl (by kernel_rfl) rfl (hp.get (j := 3) rfl) rfl rfl (ints_get (Nat.lt_of_lt_of_eq (m := 5) (by decide) (rfl : List.length ([0, (IntKind.u64.wrap (19 * (a1.getD 1 0))), (IntKind.u64.wrap (19 * (a1.getD 2 0))), (IntKind.u64.wrap (19 * (a1.getD 3 0))), (IntKind.u64.wrap (19 * (a1.getD 4 0)))] : List Int) = 5).symm)) ?_
    refine k_build (v := .agg (ints .u64 (List.replicate 2 (0 : Int))).toArray) rfl (fun _ => by kernel_rfl) ?_
    refine k_indexA (n := 5) (s := 1) (j := 0) rfl Try.underlying34 (by kernel_rfl) s2_e36 rfl (by decide) ?_
    refine k_load (j := 0) (v := .int .u64 (a0.getD 0 0)) rfl (by kernel_rfl) rfl (hp.get (j := 0) rfl) rfl rfl (ints_get (Nat.lt_of_lt_of_eq (m := 5) (by decide) (la0).symm)) ?_
    refine k_indexA (n := 5) (s := 1) (j := 3) rfl Try.underlying34 (by kernel_rfl) s3_e36 rfl (by decide) ?_
    refine k_load (j := 3) (v := .int .u64 (a1.getD 3 0)) rfl (by kernel_rfl) rfl (hp.get (j := 1) rfl) rfl rfl (ints_get (Nat.lt_of_lt_of_eq (m := 5) (by decide) (la1).symm)) ?_
    refine k_indexA (n := 5) (s := 1) (j := 1) rfl Try.underlying34 (by kernel_rfl) s2_e36 rfl (by decide) ?_
    refine k_load (j := 1) (v := .int .u64 (a0.getD 1 0)) rfl (by kernel_rfl) rfl (hp.get (j := 0) rfl) rfl rfl (ints_get (Nat.lt_of_lt_of_eq (m := 5) (by decide) (la0).symm)) ?_
    refine k_indexA (n := 5) (s := 1) (j := 2) rfl Try.underlying34 (by kernel_rfl) s3_e36 rfl (by decide) ?_
    refine k_load (j := 2) (v := .int .u64 (a1.getD 2 0)) rfl (by kernel_rfl) rfl (hp.get (j := 1) rfl) rfl rfl (ints_get (Nat.lt_of_lt_of_eq (m := 5) (by decide) (la1).symm)) ?_
    refine k_indexA (n := 5) (s := 1) (j := 2) rfl Try.underlying34 (by kernel_rfl) s2_e36 rfl (by decide) ?_
    refine k_load (j := 2) (v := .int .u64 (a0.getD 2 0)) rfl (by kernel_rfl) rfl (hp.get (j := 0) rfl) rfl rfl (ints_get (Nat.lt_of_lt_of_eq (m := 5) (by decide) (la0).symm)) ?_
    refine k_indexA (n := 5) (s := 1) (j := 1) rfl Try.underlying34 (by kernel_rfl) s3_e36 rfl (by decide) ?_
    refine k_load (j := 1) (v := .int .u64 (a1.getD 1 0)) rfl (by kernel_rfl) rfl (hp.get (j := 1) rfl) rfl rfl (ints_get (Nat.lt_of_lt_of_eq (m := 5) (by decide) (la1).symm)) ?_
    refine k_indexA (n := 5) (s := 1) (j := 3) rfl Try.underlying34 (by kernel_rfl) s2_e36 rfl (by decide) ?_
    refine k_load (j := 3) (v := .int .u64 (a0.getD 3 0)) rfl (by kernel_rfl) rfl (hp.get (j := 0) rfl) rfl rfl (ints_get (Nat.lt_of_lt_of_eq (m := 5) (by decide) (la0).symm)) ?_
    refine k_indexA (n := 5) (s := 1) (j := 0) rfl Try.underlying34 (by kernel_rfl) s3_e36 rfl (by decide) ?_
    refine k_load (j := 0) (v := .int .u64 (a1.getD 0 0)) rfl (by kernel_rfl) rfl (hp.get (j := 1) rfl) rfl rfl (ints_get (Nat.lt_of_lt_of_eq (m := 5) (by decide) (la1).symm)) ?_
    refine k_indexA (n := 5) (s := 1) (j := 4) rfl Try.underlying34 (by kernel_rfl) s2_e36 rfl (by decide) ?_
    refine k_load (j := 4) (v := .int .u64 (a0.getD 4 0)) rfl (by kernel_rfl) rfl (hp.get (j := 0) rfl) rfl rfl (ints_get (Nat.lt_of_lt_of_eq (m := 5) (by decide) (la0).symm)) ?_
    refine k_indexA (n := 5) (s := 1) (j := 4) rfl Try.underlying33 (by kernel_rfl) s5_e36 rfl (by decide) ?_
    refine k_load (j := 4) (v := .int .u64 ([0, (IntKind.u64.wrap (19 * (a1.getD 1 0))), (IntKind.u64.wrap (19 * (a1.getD 2 0))), (IntKind.u64.wrap (19 * (a1.getD 3 0))), (IntKind.u64.wrap (19 * (a1.getD 4 0)))].getD 4 0)) rfl (by kernel_rfl) rfl (hp.get (j := 3) rfl) rfl rfl (ints_get (Nat.lt_of_lt_of_eq (m := 5) (by decide) (rfl : List.length ([0, (IntKind.u64.wrap (19 * (a1.getD 1 0))), (IntKind.u64.wrap (19 * (a1.getD 2 0))), (IntKind.u64.wrap (19 * (a1.getD 3 0))), (IntKind.u64.wrap (19 * (a1.getD 4 0)))] : List Int) = 5).symm)) ?_
    refine k_build (v := .agg (ints .u64 (List.replicate 2 (0 : Int))).toArray) rfl (fun _ => by kernel_rfl) ?_
    refine k_indexA (n := 5) (s := 1) (j := 0) rfl Try.underlying34 (by kernel_rfl) s2_e36 rfl (by decide) ?_
    refine k_load (j := 0) (v := .int .u64 (a0.getD 0 0)) rfl (by kernel_rfl) rfl (hp.get (j := 0) rfl) rfl rfl (ints_get (Nat.lt_of_lt_of_eq (m := 5) (by decide) (la0).symm)) ?_
    refine k_indexA (n := 5) (s := 1) (j := 4) rfl Try.underlying34 (by kernel_rfl) s3_e36 rfl (by decide) ?_
    refine k_load (j := 4) (v := .int .u64 (a1.getD 4 0)) rfl (by kernel_rfl) rfl (hp.get (j := 1) rfl) rfl rfl (ints_get (Nat.lt_of_lt_of_eq (m := 5) (by decide) (la1).symm)) ?_
    refine k_indexA (n := 5) (s := 1) (j := 1) rfl Try.underlying34 (by kernel_rfl) s2_e36 rfl (by decide) ?_
    refine k_load (j := 1) (v := .int .u64 (a0.getD 1 0)) rfl (by kernel_rfl) rfl (hp.get (j := 0) rfl) rfl rfl (ints_get (Nat.lt_of_lt_of_eq (m := 5) (by decide) (la0).symm)) ?_
    refine k_indexA (n := 5) (s := 1) (j := 3) rfl Try.underlying34 (by kernel_rfl) s3_e36 rfl (by decide) ?_
    refine k_load (j := 3) (v := .int .u64 (a1.getD 3 0)) rfl (by kernel_rfl) rfl (hp.get (j := 1) rfl) rfl rfl (ints_get (Nat.lt_of_lt_of_eq (m := 5) (by decide) (la1).symm)) ?_
    refine k_indexA (n := 5) (s := 1) (j := 2) rfl Try.underlying34 (by kernel_rfl) s2_e36 rfl (by decide) ?_
    refine k_load (j := 2) (v := .int .u64 (a0.getD 2 0)) rfl (by kernel_rfl) rfl (hp.get (j := 0) rfl) rfl rfl (ints_get (Nat.lt_of_lt_of_eq (m := 5) (by decide) (la0).symm)) ?_
    refine k_indexA (n := 5) (s := 1) (j := 2) rfl Try.underlying34 (by kernel_rfl) s3_e36 rfl (by decide) ?_
    refine k_load (j := 2) (v := .int .u64 (a1.getD 2 0)) rfl (by kernel_rfl) rfl (hp.get (j := 1) rfl) rfl rfl (ints_get (Nat.lt_of_lt_of_eq (m := 5) (by decide) (la1).symm)) ?_
    refine k_indexA (n := 5) (s := 1) (j := 3) rfl Try.underlying34 (by kernel_rfl) s2_e36 rfl (by decide) ?_
    refine k_load (j := 3) (v := .int .u64 (a0.getD 3 0)) rfl (by kernel_rfl) rfl (hp.get (j := 0) rfl) rfl rfl (ints_get (Nat.lt_of_lt_of_eq (m := 5) (by decide) (la0).symm)) ?_
    refine k_indexA (n := 5) (s := 1) (j := 1) rfl Try.underlying34 (by kernel_rfl) s3_e36 rfl (by decide) ?_
    refine k_load (j := 1) (v := .int .u64 (a1.getD 1 0)) rfl (by kernel_rfl) rfl (hp.get (j := 1) rfl) rfl rfl (ints_get (Nat.lt_of_lt_of_eq (m := 5) (by decide) (la1).symm)) ?_
    refine k_indexA (n := 5) (s := 1) (j := 4) rfl Try.underlying34 (by kernel_rfl) s2_e36 rfl (by decide) ?_
    refine k_load (j := 4) (v := .int .u64 (a0.getD 4 0)) rfl (by kernel_rfl) rfl (hp.get (j := 0) rfl) rfl rfl (ints_get (Nat.lt_of_lt_of_eq (m := 5) (by decide) (la0).symm)) ?_
    refine k_indexA (n := 5) (s := 1) (j := 0) rfl Try.underlying34 (by kernel_rfl) s3_e36 rfl (by decide) ?_
    refine k_load (j := 0) (v := .int .u64 (a1.getD 0 0)) rfl (by kernel_rfl) rfl (hp.get (j := 1) rfl) rfl rfl (ints_get (Nat.lt_of_lt_of_eq (m := 5) (by decide) (la1).symm)) ?_
    refine k_alt ?_ ?_
    ·
      refine k_call [.agg (ints .u64 (List.replicate 2 (0 : Int))).toArray, .int .u64 (a0.getD 0 0), .int .u64 (a1.getD 0 0)] rfl (by kernel_rfl) (args3 rfl rfl rfl) (field_wide_add_ok (List.replicate 2 (0 : Int)) (a0.getD 0 0) (a1.getD 0 0) List.length_replicate _ (hp.toR (fun _ h => by cases h)) qr5) ?_
      rintro _ w' ⟨_, rfl, rfl, lr50, hpc⟩
      refine ⟨_, rfl, .inr (.of_below hpc.chg.to_below), ?_⟩; have hp := hp.below hpc.chg.to_below; clear hpc
      refine k_alt ?_ ?_
      ·
        refine k_call [.agg (ints .u64 r5).toArray, .int .u64 (a0.getD 1 0), .int .u64 ([0, (IntKind.u64.wrap (19 * (a1.getD 1 0))), (IntKind.u64.wrap (19 * (a1.getD 2 0))), (IntKind.u64.wrap (19 * (a1.getD 3 0))), (IntKind.u64.wrap (19 * (a1.getD 4 0)))].getD 4 0)] rfl (by kernel_rfl) (args3 rfl rfl rfl) (field_wide_add_ok r5 (a0.getD 1 0) ([0, (IntKind.u64.wrap (19 * (a1.getD 1 0))), (IntKind.u64.wrap (19 * (a1.getD 2 0))), (IntKind.u64.wrap (19 * (a1.getD 3 0))), (IntKind.u64.wrap (19 * (a1.getD 4 0)))].getD 4 0) lr50 _ (hp.toR (fun _ h => by cases h)) qr6) ?_
        rintro _ w' ⟨_, rfl, rfl, lr60, hpc⟩
        refine ⟨_, rfl, .inr (.of_below hpc.chg.to_below), ?_⟩; have hp := hp.below hpc.chg.to_below; clear hpc
        refine k_alt ?_ ?_
        ·
          refine k_call [.agg (ints .u64 r6).toArray, .int .u64 (a0.getD 2 0), .int .u64 ([0, (IntKind.u64.wrap (19 * (a1.getD 1 0))), (IntKind.u64.wrap (19 * (a1.getD 2 0))), (IntKind.u64.wrap (19 * (a1.getD 3 0))), (IntKind.u64.wrap (19 * (a1.getD 4 0)))].getD 3 0)] rfl (by kernel_rfl) (args3 rfl rfl rfl) (field_wide_add_ok r6 (a0.getD 2 0) ([0, (IntKind.u64.wrap (19 * (a1.getD 1 0))), (IntKind.u64.wrap (19 * (a1.getD 2 0))), (IntKind.u64.wrap (19 * (a1.getD 3 0))), (IntKind.u64.wrap (19 * (a1.getD 4 0)))].getD 3 0) lr60 _ (hp.toR (fun _ h => by cases h)) qr7) ?_
          rintro _ w' ⟨_, rfl, rfl, lr70, hpc⟩
          refine ⟨_, rfl, .inr (.of_below hpc.chg.to_below), ?_⟩; have hp := hp.below hpc.chg.to_below; clear hpc
          refine k_alt ?_ ?_
          ·
            refine k_call [.agg (ints .u64 r7).toArray, .int .u64 (a0.getD 3 0), .int .u64 ([0, (IntKind.u64.wrap (19 * (a1.getD 1 0))), (IntKind.u64.wrap (19 * (a1.getD 2 0))), (IntKind.u64.wrap (19 * (a1.getD 3 0))), (IntKind.u64.wrap (19 * (a1.getD 4 0)))].getD 2 0)] rfl (by kernel_rfl) (args3 rfl rfl rfl) (field_wide_add_ok r7 (a0.getD 3 0) ([0, (IntKind.u64.wrap (19 * (a1.getD 1 0))), (IntKind.u64.wrap (19 * (a1.getD 2 0))), (IntKind.u64.wrap (19 * (a1.getD 3 0))), (IntKind.u64.wrap (19 * (a1.getD 4 0)))].getD 2 0) lr70 _ (hp.toR (fun _ h => by cases h)) qr8) ?_
            rintro _ w' ⟨_, rfl, rfl, lr80, hpc⟩
            refine ⟨_, rfl, .inr (.of_below hpc.chg.to_below), ?_⟩; have hp := hp.below hpc.chg.to_below; clear hpc
            refine k_alt ?_ ?_
            ·
              refine k_call [.agg (ints .u64 r8).toArray, .int .u64 (a0.getD 4 0), .int .u64 ([0, (IntKind.u64.wrap (19 * (a1.getD 1 0))), (IntKind.u64.wrap (19 * (a1.getD 2 0))), (IntKind.u64.wrap (19 * (a1.getD 3 0))), (IntKind.u64.wrap (19 * (a1.getD 4 0)))].getD 1 0)] rfl (by kernel_rfl) (args3 rfl rfl rfl) (field_wide_add_ok r8 (a0.getD 4 0) ([0, (IntKind.u64.wrap (19 * (a1.getD 1 0))), (IntKind.u64.wrap (19 * (a1.getD 2 0))), (IntKind.u64.wrap (19 * (a1.getD 3 0))), (IntKind.u64.wrap (19 * (a1.getD 4 0)))].getD 1 0) lr80 _ (hp.toR (fun _ h => by cases h)) qr9) ?_
              rintro _ w' ⟨_, rfl, rfl, lr90, hpc⟩
              refine ⟨_, rfl, .inr (.of_below hpc.chg.to_below), ?_⟩; have hp := hp.below hpc.chg.to_below; clear hpc
              refine k_alt ?_ ?_
              ·
                refine k_call [.agg (ints .u64 (List.replicate 2 (0 : Int))).toArray, .int .u64 (a0.getD 0 0), .int .u64 (a1.getD 1 0)] rfl (by kernel_rfl) (args3 rfl rfl rfl) (field_wide_add_ok (List.replicate 2 (0 : Int)) (a0.getD 0 0) (a1.getD 1 0) List.length_replicate _ (hp.toR (fun _ h => by cases h)) qr10) ?_
                rintro _ w' ⟨_, rfl, rfl, lr100, hpc⟩
                refine ⟨_, rfl, .inr (.of_below hpc.chg.to_below), ?_⟩; have hp := hp.below hpc.chg.to_below; clear hpc
                refine k_alt ?_ ?_
                ·
                  refine k_call [.agg (ints .u64 r10).toArray, .int .u64 (a0.getD 1 0), .int .u64 (a1.getD 0 0)] rfl (by kernel_rfl) (args3 rfl rfl rfl) (field_wide_add_ok r10 (a0.getD 1 0) (a1.getD 0 0) lr100 _ (hp.toR (fun _ h => by cases h)) qr11) ?_
                  rintro _ w' ⟨_, rfl, rfl, lr110, hpc⟩
                  refine ⟨_, rfl, .inr (.of_below hpc.chg.to_below), ?_⟩; have hp := hp.below hpc.chg.to_below; clear hpc
                  refine k_alt ?_ ?_
                  ·
                    refine k_call [.agg (ints .u64 r11).toArray, .int .u64 (a0.getD 2 0), .int .u64 ([0, (IntKind.u64.wrap (19 * (a1.getD 1 0))), (IntKind.u64.wrap (19 * (a1.getD 2 0))), (IntKind.u64.wrap (19 * (a1.getD 3 0))), (IntKind.u64.wrap (19 * (a1.getD 4 0)))].getD 4 0)] rfl (by kernel_rfl) (args3 rfl rfl rfl) (field_wide_add_ok r11 (a0.getD 2 0) ([0, (IntKind.u64.wrap (19 * (a1.getD 1 0))), (IntKind.u64.wrap (19 * (a1.getD 2 0))), (IntKind.u64.wrap (19 * (a1.getD 3 0))), (IntKind.u64.wrap (19 * (a1.getD 4 0)))].getD 4 0) lr110 _ (hp.toR (fun _ h => by cases h)) qr12) ?_
                    rintro _ w' ⟨_, rfl, rfl, lr120, hpc⟩
                    refine ⟨_, rfl, .inr (.of_below hpc.chg.to_below), ?_⟩; have hp := hp.below hpc.chg.to_below; clear hpc
                    refine k_alt ?_ ?_
                    ·
                      refine k_call [.agg (ints .u64 r12).toArray, .int .u64 (a0.getD 3 0), .int .u64 ([0, (IntKind.u64.wrap (19 * (a1.getD 1 0))), (IntKind.u64.wrap (19 * (a1.getD 2 0))), (IntKind.u64.wrap (19 * (a1.getD 3 0))), (IntKind.u64.wrap (19 * (a1.getD 4 0)))].getD 3 0)] rfl (by kernel_rfl) (args3 rfl rfl rfl) (field_wide_add_ok r12 (a0.getD 3 0) ([0, (IntKind.u64.wrap (19 * (a1.getD 1 0))), (IntKind.u64.wrap (19 * (a1.getD 2 0))), (IntKind.u64.wrap (19 * (a1.getD 3 0))), (IntKind.u64.wrap (19 * (a1.getD 4 0)))].getD 3 0) lr120 _ (hp.toR (fun _ h => by cases h)) qr13) ?_
                      rintro _ w' ⟨_, rfl, rfl, lr130, hpc⟩
                      refine ⟨_, rfl, .inr (.of_below hpc.chg.to_below), ?_⟩; have hp := hp.below hpc.chg.to_below; clear hpc
                      refine k_alt ?_ ?_
                      ·
                        refine k_call [.agg (ints .u64 r13).toArray, .int .u64 (a0.getD 4 0), .int .u64 ([0, (IntKind.u64.wrap (19 * (a1.getD 1 0))), (IntKind.u64.wrap (19 * (a1.getD 2 0))), (IntKind.u64.wrap (19 * (a1.getD 3 0))), (IntKind.u64.wrap (19 * (a1.getD 4 0)))].getD 2 0)] rfl (by kernel_rfl) (args3 rfl rfl rfl) (field_wide_add_ok r13 (a0.getD 4 0) ([0, (IntKind.u64.wrap (19 * (a1.getD 1 0))), (IntKind.u64.wrap (19 * (a1.getD 2 0))), (IntKind.u64.wrap (19 * (a1.getD 3 0))), (IntKind.u64.wrap (19 * (a1.getD 4 0)))].getD 2 0) lr130 _ (hp.toR (fun _ h => by cases h)) qr14) ?_
                        rintro _ w' ⟨_, rfl, rfl, lr140, hpc⟩
                        refine ⟨_, rfl, .inr (.of_below hpc.chg.to_below), ?_⟩; have hp := hp.below hpc.chg.to_below; clear hpc
                        refine k_alt ?_ ?_
                        ·
                          refine k_call [.agg (ints .u64 (List.replicate 2 (0 : Int))).toArray, .int .u64 (a0.getD 0 0), .int .u64 (a1.getD 2 0)] rfl (by kernel_rfl) (args3 rfl rfl rfl) (field_wide_add_ok (List.replicate 2 (0 : Int)) (a0.getD 0 0) (a1.getD 2 0) List.length_replicate _ (hp.toR (fun _ h => by cases h)) qr15) ?_
                          rintro _ w' ⟨_, rfl, rfl, lr150, hpc⟩
                          refine ⟨_, rfl, .inr (.of_below hpc.chg.to_below), ?_⟩; have hp := hp.below hpc.chg.to_below; clear hpc
                          refine k_alt ?_ ?_
                          ·
                            refine k_call [.agg (ints .u64 r15).toArray, .int .u64 (a0.getD 1 0), .int .u64 (a1.getD 1 0)] rfl (by kernel_rfl) (args3 rfl rfl rfl) (field_wide_add_ok r15 (a0.getD 1 0) (a1.getD 1 0) lr150 _ (hp.toR (fun _ h => by cases h)) qr16) ?_
                            rintro _ w' ⟨_, rfl, rfl, lr160, hpc⟩
                            refine ⟨_, rfl, .inr (.of_below hpc.chg.to_below), ?_⟩; have hp := hp.below hpc.chg.to_below; clear hpc
                            refine k_alt ?_ ?_
                            ·
                              refine k_call [.agg (ints .u64 r16).toArray, .int .u64 (a0.getD 2 0), .int .u64 (a1.getD 0 0)] rfl (by kernel_rfl) (args3 rfl rfl rfl) (field_wide_add_ok r16 (a0.getD 2 0) (a1.getD 0 0) lr160 _ (hp.toR (fun _ h => by cases h)) qr17) ?_
                              rintro _ w' ⟨_, rfl, rfl, lr170, hpc⟩
                              refine ⟨_, rfl, .inr (.of_below hpc.chg.to_below), ?_⟩; have hp := hp.below hpc.chg.to_below; clear hpc
                              refine k_alt ?_ ?_
                              ·
                                refine k_call [.agg (ints .u64 r17).toArray, .int .u64 (a0.getD 3 0), .int .u64 ([0, (IntKind.u64.wrap (19 * (a1.getD 1 0))), (IntKind.u64.wrap (19 * (a1.getD 2 0))), (IntKind.u64.wrap (19 * (a1.getD 3 0))), (IntKind.u64.wrap (19 * (a1.getD 4 0)))].getD 4 0)] rfl (by kernel_rfl) (args3 rfl rfl rfl) (field_wide_add_ok r17 (a0.getD 3 0) ([0, (IntKind.u64.wrap (19 * (a1.getD 1 0))), (IntKind.u64.wrap (19 * (a1.getD 2 0))), (IntKind.u64.wrap (19 * (a1.getD 3 0))), (IntKind.u64.wrap (19 * (a1.getD 4 0)))].getD 4 0) lr170 _ (hp.toR (fun _ h => by cases h)) qr18) ?_
                                rintro _ w' ⟨_, rfl, rfl, lr180, hpc⟩
                                refine ⟨_, rfl, .inr (.of_below hpc.chg.to_below), ?_⟩; have hp := hp.below hpc.chg.to_below; clear hpc
                                refine k_alt ?_ ?_
                                ·
                                  refine k_call [.agg (ints .u64 r18).toArray, .int .u64 (a0.getD 4 0), .int .u64 ([0, (IntKind.u64.wrap (19 * (a1.getD 1 0))), (IntKind.u64.wrap (19 * (a1.getD 2 0))), (IntKind.u64.wrap (19 * (a1.getD 3 0))), (IntKind.u64.wrap (19 * (a1.getD 4 0)))].getD 3 0)] rfl (by kernel_rfl) (args3 rfl rfl rfl) (field_wide_add_ok r18 (a0.getD 4 0) ([0, (IntKind.u64.wrap (19 * (a1.getD 1 0))), (IntKind.u64.wrap (19 * (a1.getD 2 0))), (IntKind.u64.wrap (19 * (a1.getD 3 0))), (IntKind.u64.wrap (19 * (a1.getD 4 0)))].getD 3 0) lr180 _ (hp.toR (fun _ h => by cases h)) qr19) ?_
                                  rintro _ w' ⟨_, rfl, rfl, lr190, hpc⟩
                                  refine ⟨_, rfl, .inr (.of_below hpc.chg.to_below), ?_⟩; have hp := hp.below hpc.chg.to_below; clear hpc
                                  refine k_alt ?_ ?_
                                  ·
                                    refine k_call [.agg (ints .u64 (List.replicate 2 (0 : Int))).toArray, .int .u64 (a0.getD 0 0), .int .u64 (a1.getD 3 0)] rfl (by kernel_rfl) (args3 rfl rfl rfl) (field_wide_add_ok (List.replicate 2 (0 : Int)) (a0.getD 0 0) (a1.getD 3 0) List.length_replicate _ (hp.toR (fun _ h => by cases h)) qr20) ?_
                                    rintro _ w' ⟨_, rfl, rfl, lr200, hpc⟩
                                    refine ⟨_, rfl, .inr (.of_below hpc.chg.to_below), ?_⟩; have hp := hp.below hpc.chg.to_below; clear hpc
                                    refine k_alt ?_ ?_
                                    ·
                                      refine k_call [.agg (ints .u64 r20).toArray, .int .u64 (a0.getD 1 0), .int .u64 (a1.getD 2 0)] rfl (by kernel_rfl) (args3 rfl rfl rfl) (field_wide_add_ok r20 (a0.getD 1 0) (a1.getD 2 0) lr200 _ (hp.toR (fun _ h => by cases h)) qr21) ?_
                                      rintro _ w' ⟨_, rfl, rfl, lr210, hpc⟩
                                      refine ⟨_, rfl, .inr (.of_below hpc.chg.to_below), ?_⟩; have hp := hp.below hpc.chg.to_below; clear hpc
                                      refine k_alt ?_ ?_
                                      ·
                                        refine k_call [.agg (ints .u64 r21).toArray, .int .u64 (a0.getD 2 0), .int .u64 (a1.getD 1 0)] rfl (by kernel_rfl) (args3 rfl rfl rfl) (field_wide_add_ok r21 (a0.getD 2 0) (a1.getD 1 0) lr210 _ (hp.toR (fun _ h => by cases h)) qr22) ?_
                                        rintro _ w' ⟨_, rfl, rfl, lr220, hpc⟩
                                        refine ⟨_, rfl, .inr (.of_below hpc.chg.to_below), ?_⟩; have hp := hp.below hpc.chg.to_below; clear hpc
                                        refine k_alt ?_ ?_
                                        ·
                                          refine k_call [.agg (ints .u64 r22).toArray, .int .u64 (a0.getD 3 0), .int .u64 (a1.getD 0 0)] rfl (by kernel_rfl) (args3 rfl rfl rfl) (field_wide_add_ok r22 (a0.getD 3 0) (a1.getD 0 0) lr220 _ (hp.toR (fun _ h => by cases h)) qr23) ?_
                                          rintro _ w' ⟨_, rfl, rfl, lr230, hpc⟩
                                          refine ⟨_, rfl, .inr (.of_below hpc.chg.to_below), ?_⟩; have hp := hp.below hpc.chg.to_below; clear hpc
                                          refine k_alt ?_ ?_
                                          ·
                                            refine k_call [.agg (ints .u64 r23).toArray, .int .u64 (a0.getD 4 0), .int .u64 ([0, (IntKind.u64.wrap (19 * (a1.getD 1 0))), (IntKind.u64.wrap (19 * (a1.getD 2 0))), (IntKind.u64.wrap (19 * (a1.getD 3 0))), (IntKind.u64.wrap (19 * (a1.getD 4 0)))].getD 4 0)] rfl (by kernel_rfl) (args3 rfl rfl rfl) (field_wide_add_ok r23 (a0.getD 4 0) ([0, (IntKind.u64.wrap (19 * (a1.getD 1 0))), (IntKind.u64.wrap (19 * (a1.getD 2 0))), (IntKind.u64.wrap (19 * (a1.getD 3 0))), (IntKind.u64.wrap (19 * (a1.getD 4 0)))].getD 4 0) lr230 _ (hp.toR (fun _ h => by cases h)) qr24) ?_
                                            rintro _ w' ⟨_, rfl, rfl, lr240, hpc⟩
                                            refine ⟨_, rfl, .inr (.of_below hpc.chg.to_below), ?_⟩; have hp := hp.below hpc.chg.to_below; clear hpc
                                            refine k_alt ?_ ?_
                                            ·
                                              refine k_call [.agg (ints .u64 (List.replicate 2 (0 : Int))).toArray, .int .u64 (a0.getD 0 0), .int .u64 (a1.getD 4 0)] rfl (by kernel_rfl) (args3 rfl rfl rfl) (field_wide_add_ok (List.replicate 2 (0 : Int)) (a0.getD 0 0) (a1.getD 4 0) List.length_replicate _ (hp.toR (fun _ h => by cases h)) qr25) ?_
                                              rintro _ w' ⟨_, rfl, rfl, lr250, hpc⟩
                                              refine ⟨_, rfl, .inr (.of_below hpc.chg.to_below), ?_⟩; have hp := hp.below hpc.chg.to_below; clear hpc
                                              refine k_alt ?_ ?_
                                              ·
                                                refine k_call [.agg (ints .u64 r25).toArray, .int .u64 (a0.getD 1 0), .int .u64 (a1.getD 3 0)] rfl (by kernel_rfl) (args3 rfl rfl rfl) (field_wide_add_ok r25 (a0.getD 1 0) (a1.getD 3 0) lr250 _ (hp.toR (fun _ h => by cases h)) qr26) ?_
                                                rintro _ w' ⟨_, rfl, rfl, lr260, hpc⟩
                                                refine ⟨_, rfl, .inr (.of_below hpc.chg.to_below), ?_⟩; have hp := hp.below hpc.chg.to_below; clear hpc
                                                refine k_alt ?_ ?_
                                                ·
                                                  refine k_call [.agg (ints .u64 r26).toArray, .int .u64 (a0.getD 2 0), .int .u64 (a1.getD 2 0)] rfl (by kernel_rfl) (args3 rfl rfl rfl) (field_wide_add_ok r26 (a0.getD 2 0) (a1.getD 2 0) lr260 _ (hp.toR (fun _ h => by cases h)) qr27) ?_
                                                  rintro _ w' ⟨_, rfl, rfl, lr270, hpc⟩
                                                  refine ⟨_, rfl, .inr (.of_below hpc.chg.to_below), ?_⟩; have hp := hp.below hpc.chg.to_below; clear hpc
                                                  refine k_alt ?_ ?_
                                                  ·
                                                    refine k_call [.agg (ints .u64 r27).toArray, .int .u64 (a0.getD 3 0), .int .u64 (a1.getD 1 0)] rfl (by kernel_rfl) (args3 rfl rfl rfl) (field_wide_add_ok r27 (a0.getD 3 0) (a1.getD 1 0) lr270 _ (hp.toR (fun _ h => by cases h)) qr28) ?_
                                                    rintro _ w' ⟨_, rfl, rfl, lr280, hpc⟩
                                                    refine ⟨_, rfl, .inr (.of_below hpc.chg.to_below), ?_⟩; have hp := hp.below hpc.chg.to_below; clear hpc
                                                    refine k_alt ?_ ?_
                                                    ·
                                                      refine k_call [.agg (ints .u64 r28).toArray, .int .u64 (a0.getD 4 0), .int .u64 (a1.getD 0 0)] rfl (by kernel_rfl) (args3 rfl rfl rfl) (field_wide_add_ok r28 (a0.getD 4 0) (a1.getD 0 0) lr280 _ (hp.toR (fun _ h => by cases h)) qr29) ?_
                                                      rintro _ w' ⟨_, rfl, rfl, lr290, hpc⟩
                                                      refine ⟨_, rfl, .inr (.of_below hpc.chg.to_below), ?_⟩; have hp := hp.below hpc.chg.to_below; clear hpc
                                                      refine k_buildP (v := .agg (ints .u64 (r9 ++ r14 ++ r19 ++ r24 ++ r29)).toArray) [(0, .agg (ints .u64 r9).toArray), (1, .agg (ints .u64 r14).toArray), (2, .agg (ints .u64 r19).toArray), (3, .agg (ints .u64 r24).toArray), (4, .agg (ints .u64 r29).toArray)] rfl (pcons rfl (pcons rfl (pcons rfl (pcons rfl (pcons rfl pnil))))) (fun _ => by rw [lst r9 lr90, lst r14 lr140, lst r19 lr190, lst r24 lr240, lst r29 lr290]; kernel_rfl) ?_
                                                      refine k_alloc (ints .u64 (List.replicate 10 (0 : Int))) rfl (by kernel_rfl) hp ?_
                                                      intro g30 w hbg30 hp
                                                      exact T38 _ _ ⟨g30, lr90, lr140, lr190, lr240, lr290, s4_e36, rfl, rfl, hp⟩
                                                    refine k_alloc (ints .u64 (List.replicate 10 (0 : Int))) rfl (by kernel_rfl) hp ?_
                                                    intro g30 w hbg30 hp
                                                    exact T39 _ _ ⟨g30, lr90, lr140, lr190, lr240, lr280, s4_e36, rfl, rfl, rfl, rfl, rfl, rfl, rfl, rfl, hp⟩
                                                  refine k_alloc (ints .u64 (List.replicate 10 (0 : Int))) rfl (by kernel_rfl) hp ?_
                                                  intro g30 w hbg30 hp
                                                  exact T40 _ _ ⟨g30, lr90, lr140, lr190, lr240, lr270, s4_e36, rfl, rfl, rfl, rfl, rfl, rfl, rfl, rfl, rfl, rfl, hp⟩
                                                refine k_alloc (ints .u64 (List.replicate 10 (0 : Int))) rfl (by kernel_rfl) hp ?_
                                                intro g30 w hbg30 hp
                                                exact T41 _ _ ⟨g30, lr90, lr140, lr190, lr240, lr260, s4_e36, rfl, rfl, rfl, rfl, rfl, rfl, rfl, rfl, rfl, rfl, rfl, rfl, hp⟩
                                              refine k_alloc (ints .u64 (List.replicate 10 (0 : Int))) rfl (by kernel_rfl) hp ?_
                                              intro g30 w hbg30 hp
                                              exact T42 _ _ ⟨g30, lr90, lr140, lr190, lr240, lr250, s4_e36, rfl, rfl, rfl, rfl, rfl, rfl, rfl, rfl, rfl, rfl, rfl, rfl, rfl, rfl, hp⟩
                                            refine k_alloc (ints .u64 (List.replicate 10 (0 : Int))) rfl (by kernel_rfl) hp ?_
                                            intro g30 w hbg30 hp
                                            exact T43 _ _ ⟨g30, lr90, lr140, lr190, lr240, s4_e36, rfl, rfl, rfl, rfl, rfl, rfl, rfl, rfl, rfl, rfl, rfl, rfl, rfl, rfl, rfl, rfl, hp⟩
                                          refine k_alloc (ints .u64 (List.replicate 10 (0 : Int))) rfl (by kernel_rfl) hp ?_
                                          intro g30 w hbg30 hp
                                          exact T44 _ _ ⟨g30, lr90, lr140, lr190, lr230, s4_e36, rfl, rfl, rfl, rfl, rfl, rfl, rfl, rfl, rfl, rfl, rfl, rfl, rfl, rfl, rfl, rfl, rfl, rfl, hp⟩
                                        refine k_alloc (ints .u64 (List.replicate 10 (0 : Int))) rfl (by kernel_rfl) hp ?_
                                        intro g30 w hbg30 hp
                                        exact T45 _ _ ⟨g30, lr90, lr140, lr190, lr220, s4_e36, rfl, rfl, rfl, rfl, rfl, rfl, rfl, rfl, rfl, rfl, rfl, rfl, rfl, rfl, rfl, rfl, rfl, rfl, rfl, rfl, hp⟩
                                      refine k_alloc (ints .u64 (List.replicate 10 (0 : Int))) rfl (by kernel_rfl) hp ?_
                                      intro g30 w hbg30 hp
                                      exact T46 _ _ ⟨g30, lr90, lr140, lr190, lr210, s4_e36, rfl, rfl, rfl, rfl, rfl, rfl, rfl, rfl, rfl, rfl, rfl, rfl, rfl, rfl, rfl, rfl, rfl, rfl, rfl, rfl, rfl, rfl, hp⟩
                                    refine k_alloc (ints .u64 (List.replicate 10 (0 : Int))) rfl (by kernel_rfl) hp ?_
                                    intro g30 w hbg30 hp
                                    exact T47 _ _ ⟨g30, lr90, lr140, lr190, lr200, s4_e36, rfl, rfl, rfl, rfl, rfl, rfl, rfl, rfl, rfl, rfl, rfl, rfl, rfl, rfl, rfl, rfl, rfl, rfl, rfl, rfl, rfl, rfl, rfl, rfl, hp⟩
                                  refine k_alloc (ints .u64 (List.replicate 10 (0 : Int))) rfl (by kernel_rfl) hp ?_
                                  intro g30 w hbg30 hp
                                  exact T48 _ _ ⟨g30, lr90, lr140, lr190, s4_e36, rfl, rfl, rfl, rfl, rfl, rfl, rfl, rfl, rfl, rfl, rfl, rfl, rfl, rfl, rfl, rfl, rfl, rfl, rfl, rfl, rfl, rfl, rfl, rfl, rfl, rfl, hp⟩
                                refine k_alloc (ints .u64 (List.replicate 10 (0 : Int))) rfl (by kernel_rfl) hp ?_
                                intro g30 w hbg30 hp
                                exact T49 _ _ ⟨g30, lr90, lr140, lr180, s4_e36, rfl, rfl, rfl, rfl, rfl, rfl, rfl, rfl, rfl, rfl, rfl, rfl, rfl, rfl, rfl, rfl, rfl, rfl, rfl, rfl, rfl, rfl, rfl, rfl, rfl, rfl, rfl, rfl, hp⟩
                              refine k_alloc (ints .u64 (List.replicate 10 (0 : Int))) rfl (by kernel_rfl) hp ?_
                              intro g30 w hbg30 hp
                              exact T50 _ _ ⟨g30, lr90, lr140, lr170, s4_e36, rfl, rfl, rfl, rfl, rfl, rfl, rfl, rfl, rfl, rfl, rfl, rfl, rfl, rfl, rfl, rfl, rfl, rfl, rfl, rfl, rfl, rfl, rfl, rfl, rfl, rfl, rfl, rfl, rfl, rfl, hp⟩
                            refine k_alloc (ints .u64 (List.replicate 10 (0 : Int))) rfl (by kernel_rfl) hp ?_
                            intro g30 w hbg30 hp
                            exact T51 _ _ ⟨g30, lr90, lr140, lr160, s4_e36, rfl, rfl, rfl, rfl, rfl, rfl, rfl, rfl, rfl, rfl, rfl, rfl, rfl, rfl, rfl, rfl, rfl, rfl, rfl, rfl, rfl, rfl, rfl, rfl, rfl, rfl, rfl, rfl, rfl, rfl, rfl, rfl, hp⟩
                          refine k_alloc (ints .u64 (List.replicate 10 (0 : Int))) rfl (by kernel_rfl) hp ?_
                          intro g30 w hbg30 hp
                          exact T52 _ _ ⟨g30, lr90, lr140, lr150, s4_e36, rfl, rfl, rfl, rfl, rfl, rfl, rfl, rfl, rfl, rfl, rfl, rfl, rfl, rfl, rfl, rfl, rfl, rfl, rfl, rfl, rfl, rfl, rfl, rfl, rfl, rfl, rfl, rfl, rfl, rfl, rfl, rfl, rfl, rfl, hp⟩
                        refine k_alloc (ints .u64 (List.replicate 10 (0 : Int))) rfl (by kernel_rfl) hp ?_
                        intro g30 w hbg30 hp
                        exact T53 _ _ ⟨g30, lr90, lr140, s4_e36, rfl, rfl, rfl, rfl, rfl, rfl, rfl, rfl, rfl, rfl, rfl, rfl, rfl, rfl, rfl, rfl, rfl, rfl, rfl, rfl, rfl, rfl, rfl, rfl, rfl, rfl, rfl, rfl, rfl, rfl, rfl, rfl, rfl, rfl, rfl, rfl, hp⟩
                      refine k_alloc (ints .u64 (List.replicate 10 (0 : Int))) rfl (by kernel_rfl) hp ?_
                      intro g30 w hbg30 hp
                      exact T54 _ _ ⟨g30, lr90, lr130, s4_e36, rfl, rfl, rfl, rfl, rfl, rfl, rfl, rfl, rfl, rfl, rfl, rfl, rfl, rfl, rfl, rfl, rfl, rfl, rfl, rfl, rfl, rfl, rfl, rfl, rfl, rfl, rfl, rfl, rfl, rfl, rfl, rfl, rfl, rfl, rfl, rfl, rfl, rfl, hp⟩
                    refine k_alloc (ints .u64 (List.replicate 10 (0 : Int))) rfl (by kernel_rfl) hp ?_
                    intro g30 w hbg30 hp
                    exact T55 _ _ ⟨g30, lr90, lr120, s4_e36, rfl, rfl, rfl, rfl, rfl, rfl, rfl, rfl, rfl, rfl, rfl, rfl, rfl, rfl, rfl, rfl, rfl, rfl, rfl, rfl, rfl, rfl, rfl, rfl, rfl, rfl, rfl, rfl, rfl, rfl, rfl, rfl, rfl, rfl, rfl, rfl, rfl, rfl, rfl, rfl, hp⟩
                  refine k_alloc (ints .u64 (List.replicate 10 (0 : Int))) rfl (by kernel_rfl) hp ?_
                  intro g30 w hbg30 hp
                  exact T56 _ _ ⟨g30, lr90, lr110, s4_e36, rfl, rfl, rfl, rfl, rfl, rfl, rfl, rfl, rfl, rfl, rfl, rfl, rfl, rfl, rfl, rfl, rfl, rfl, rfl, rfl, rfl, rfl, rfl, rfl, rfl, rfl, rfl, rfl, rfl, rfl, rfl, rfl, rfl, rfl, rfl, rfl, rfl, rfl, rfl, rfl, rfl, rfl, hp⟩
                refine k_alloc (ints .u64 (List.replicate 10 (0 : Int))) rfl (by kernel_rfl) hp ?_
                intro g30 w hbg30 hp
                exact T57 _ _ ⟨g30, lr90, lr100, s4_e36, rfl, rfl, rfl, rfl, rfl, rfl, rfl, rfl, rfl, rfl, rfl, rfl, rfl, rfl, rfl, rfl, rfl, rfl, rfl, rfl, rfl, rfl, rfl, rfl, rfl, rfl, rfl, rfl, rfl, rfl, rfl, rfl, rfl, rfl, rfl, rfl, rfl, rfl, rfl, rfl, rfl, rfl, rfl, rfl, hp⟩
              refine k_alloc (ints .u64 (List.replicate 10 (0 : Int))) rfl (by kernel_rfl) hp ?_
              intro g30 w hbg30 hp
              exact T58 _ _ ⟨g30, lr90, s4_e36, rfl, rfl, rfl, rfl, rfl, rfl, rfl, rfl, rfl, rfl, rfl, rfl, rfl, rfl, rfl, rfl, rfl, rfl, rfl, rfl, rfl, rfl, rfl, rfl, rfl, rfl, rfl, rfl, rfl, rfl, rfl, rfl, rfl, rfl, rfl, rfl, rfl, rfl, rfl, rfl, rfl, rfl, rfl, rfl, rfl, rfl, hp⟩
            refine k_alloc (ints .u64 (List.replicate 10 (0 : Int))) rfl (by kernel_rfl) hp ?_
            intro g30 w hbg30 hp
            exact T59 _ _ ⟨g30, lr80, s4_e36, rfl, rfl, rfl, rfl, rfl, rfl, rfl, rfl, rfl, rfl, rfl, rfl, rfl, rfl, rfl, rfl, rfl, rfl, rfl, rfl, rfl, rfl, rfl, rfl, rfl, rfl, rfl, rfl, rfl, rfl, rfl, rfl, rfl, rfl, rfl, rfl, rfl, rfl, rfl, rfl, rfl, rfl, rfl, rfl, rfl, rfl, rfl, rfl, hp⟩
          refine k_alloc (ints .u64 (List.replicate 10 (0 : Int))) rfl (by kernel_rfl) hp ?_
          intro g30 w hbg30 hp
          exact T60 _ _ ⟨g30, lr70, s4_e36, rfl, rfl, rfl, rfl, rfl, rfl, rfl, rfl, rfl, rfl, rfl, rfl, rfl, rfl, rfl, rfl, rfl, rfl, rfl, rfl, rfl, rfl, rfl, rfl, rfl, rfl, rfl, rfl, rfl, rfl, rfl, rfl, rfl, rfl, rfl, rfl, rfl, rfl, rfl, rfl, rfl, rfl, rfl, rfl, rfl, rfl, rfl, rfl, rfl, rfl, hp⟩
        refine k_alloc (ints .u64 (List.replicate 10 (0 : Int))) rfl (by kernel_rfl) hp ?_
        intro g30 w hbg30 hp
        exact T61 _ _ ⟨g30, lr60, s4_e36, rfl, rfl, rfl, rfl, rfl, rfl, rfl, rfl, rfl, rfl, rfl, rfl, rfl, rfl, rfl, rfl, rfl, rfl, rfl, rfl, rfl, rfl, rfl, rfl, rfl, rfl, rfl, rfl, rfl, rfl, rfl, rfl, rfl, rfl, rfl, rfl, rfl, rfl, rfl, rfl, rfl, rfl, rfl, rfl, rfl, rfl, rfl, rfl, rfl, rfl, rfl, rfl, hp⟩
      refine k_alloc (ints .u64 (List.replicate 10 (0 : Int))) rfl (by kernel_rfl) hp ?_
      intro g30 w hbg30 hp
      exact T62 _ _ ⟨g30, lr50, s4_e36, rfl, rfl, rfl, rfl, rfl, rfl, rfl, rfl, rfl, rfl, rfl, rfl, rfl, rfl, rfl, rfl, rfl, rfl, rfl, rfl, rfl, rfl, rfl, rfl, rfl, rfl, rfl, rfl, rfl, rfl, rfl, rfl, rfl, rfl, rfl, rfl, rfl, rfl, rfl, rfl, rfl, rfl, rfl, rfl, rfl, rfl, rfl, rfl, rfl, rfl, rfl, rfl, rfl, rfl, hp⟩
    refine k_alloc (ints .u64 (List.replicate 10 (0 : Int))) rfl (by kernel_rfl) hp ?_
    intro g30 w hbg30 hp
    refine k_call [.agg (ints .u64 (List.replicate 2 (0 : Int))).toArray, .int .u64 (a0.getD 0 0), .int .u64 (a1.getD 0 0)] rfl (by kernel_rfl) (args3 rfl rfl rfl) (field_wide_add_ok (List.replicate 2 (0 : Int)) (a0.getD 0 0) (a1.getD 0 0) List.length_replicate _ (hp.toR (fun _ h => by cases h)) qr5) ?_
    rintro _ w' ⟨_, rfl, rfl, lr50, hpc⟩
    refine ⟨_, rfl, .inr (.of_below hpc.chg.to_below), ?_⟩; have hp := hp.below hpc.chg.to_below; clear hpc
    exact T62 _ _ ⟨g30, lr50, s4_e36, rfl, rfl, rfl, rfl, rfl, rfl, rfl, rfl, rfl, rfl, rfl, rfl, rfl, rfl, rfl, rfl, rfl, rfl, rfl, rfl, rfl, rfl, rfl, rfl, rfl, rfl, rfl, rfl, rfl, rfl, rfl, rfl, rfl, rfl, rfl, rfl, rfl, rfl, rfl, rfl, rfl, rfl, rfl, rfl, rfl, rfl, rfl, rfl, rfl, rfl, rfl, rfl, rfl, rfl, hp⟩
  rintro e37 w ⟨g30, lr90, lr140, lr190, lr240, lr290, s4_e37, s6_e37, hp⟩
  refine wseq rfl ?_
  refine wregion_m (.tp 0 (.tp 1 (.tk 2 (.tp 3 (.tp 4 (.tk 5 (.tp 9 (.tp 10 (.tk 11 (.tp 12 (.tp 13 (.tk 14 (.tp 17 (.tp 18 (.tk 19 (.tp 20 (.tp 21 (.tk 22 (.tp 25 (.tp 26 (.tk 27 (.tp 28 (.tp 29 (.tk 30 (.tp 33 (.tp 34 (.tk 35 (.tp 36 (.tp 37 (.tk 38 (.ef 6 (.tp 7 (.tp 8 (.ef 15 (.tp 16 (.ef 23 (.tp 24 (.ef 31 (.tp 32 (.ef 39 (.tp 40 (.tp 41 (.ef 42 (.ef 43 (.done))))))))))))))))))))))))))))))))))))))))))))) [43] [(0, 0, 17592186044415), (1, 1, 17592186044415), (2, 2, 0), (4, 4, 17592186044415), (0, 0, 17592186044415), (16, 16, 0), (32, 17592186044415, 17592186044415), (64, 64, 17592186044415), (136, 136, 17592186044415), (0, 0, 17592186044415), (512, 512, 17592186044415), (1024, 1024, 0), (2048, 2048, 17592186044415), (0, 0, 17592186044415), (8192, 8192, 0), (16448, 17592186044415, 17592186044415), (36864, 36864, 17592186044415), (0, 0, 17592186044415), (131072, 131072, 17592186044415), (262144, 262144, 0), (524288, 524288, 17592186044415), (0, 0, 17592186044415), (2097152, 2097152, 0), (4227072, 17592186044415, 17592186044415), (9437184, 9437184, 17592186044415), (0, 0, 17592186044415), (33554432, 33554432, 17592186044415), (67108864, 67108864, 0), (134217728, 134217728, 17592186044415), (0, 0, 17592186044415), (536870912, 536870912, 0), (1082130432, 17592186044415, 17592186044415), (2415919104, 2415919104, 17592186044415), (0, 0, 17592186044415), (8589934592, 8589934592, 17592186044415), (17179869184, 17179869184, 0), (34359738368, 34359738368, 17592186044415), (0, 0, 17592186044415), (137438953472, 137438953472, 0), (277025390592, 17592186044415, 17592186044415), (618475290624, 618475290624, 17592186044415), (1103823438080, 1103823438080, 17592186044415), (2748779069440, 17592186044415, 17592186044415), (8796093022207, 17592186044415, 17592186044415)] rfl (by kernel_rfl) (by kernel_rfl) (Nat.le_of_ble_eq_true (by kernel_rfl)) (by kernel_rfl) (by kernel_rfl) ?_
  have hp := hp.drew
  refine k_indexA (n := 5) (s := 2) (j := 0) rfl Try.underlying58 (by kernel_rfl) s6_e37 rfl (by decide) ?_
  refine k_fieldAddr (n := 1) rfl (by kernel_rfl) rfl ?_
  refine k_load (j := 1) (v := .int .u64 ((r9 ++ r14 ++ r19 ++ r24 ++ r29).getD 1 0)) rfl (by kernel_rfl) rfl (hp.get (j := 4) rfl) rfl rfl (ints_get (Nat.lt_of_lt_of_eq (m := 10) (by decide) (show List.length ((r9 ++ r14 ++ r19 ++ r24 ++ r29) : List Int) = 10 by simp [lr90, lr140, lr190, lr240, lr290]).symm)) ?_
  refine k_bin (X := .int .u64 ((r9 ++ r14 ++ r19 ++ r24 ++ r29).getD 1 0)) (Y := .int .u64 2251799813685247) rfl rfl rfl rfl ?_
  refine k_indexA (n := 5) (s := 2) (j := 4) rfl Try.underlying58 (by kernel_rfl) s6_e37 rfl (by decide) ?_
  refine k_loadA (n := 2) (xs := ints .u64 (((r9 ++ r14 ++ r19 ++ r24 ++ r29).drop 8).take 2)) 8 rfl (by kernel_rfl) (by kernel_rfl) rfl (hp.get (j := 4) rfl) rfl rfl ((ints_length _ _).trans (part_len (show List.length ((r9 ++ r14 ++ r19 ++ r24 ++ r29) : List Int) = 10 by simp [lr90, lr140, lr190, lr240, lr290]) (by decide))) (fun m v hm => part_get hm) ?_
  refine k_indexA (n := 5) (s := 2) (j := 1) rfl Try.underlying58 (by kernel_rfl) s6_e37 rfl (by decide) ?_
  refine k_fieldAddr (n := 1) rfl (by kernel_rfl) rfl ?_
  refine k_load (j := 3) (v := .int .u64 ((r9 ++ r14 ++ r19 ++ r24 ++ r29).getD 3 0)) rfl (by kernel_rfl) rfl (hp.get (j := 4) rfl) rfl rfl (ints_get (Nat.lt_of_lt_of_eq (m := 10) (by decide) (show List.length ((r9 ++ r14 ++ r19 ++ r24 ++ r29) : List Int) = 10 by simp [lr90, lr140, lr190, lr240, lr290]).symm)) ?_
  refine k_bin (X := .int .u64 ((r9 ++ r14 ++ r19 ++ r24 ++ r29).getD 3 0)) (Y := .int .u64 2251799813685247) rfl rfl rfl rfl ?_
  refine k_indexA (n := 5) (s := 2) (j := 0) rfl Try.underlying58 (by kernel_rfl) s6_e37 rfl (by decide) ?_
  refine k_loadA (n := 2) (xs := ints .u64 (((r9 ++ r14 ++ r19 ++ r24 ++ r29).drop 0).take 2)) 0 rfl (by kernel_rfl) (by kernel_rfl) rfl (hp.get (j := 4) rfl) rfl rfl ((ints_length _ _).trans (part_len (show List.length ((r9 ++ r14 ++ r19 ++ r24 ++ r29) : List Int) = 10 by simp [lr90, lr140, lr190, lr240, lr290]) (by decide))) (fun m v hm => part_get hm) ?_
  refine k_indexA (n := 5) (s := 2) (j := 2) rfl Try.underlying58 (by kernel_rfl) s6_e37 rfl (by decide) ?_
  refine k_fieldAddr (n := 1) rfl (by kernel_rfl) rfl ?_
  refine k_load (j := 5) (v := .int .u64 ((r9 ++ r14 ++ r19 ++ r24 ++ r29).getD 5 0)) rfl (by kernel_rfl) rfl (hp.get (j := 4) rfl) rfl rfl (ints_get (Nat.lt_of_lt_of_eq (m := 10) (by decide) (show List.length ((r9 ++ r14 ++ r19 ++ r24 ++ r29) : List Int) = 10 by simp [lr90, lr140, lr190, lr240, lr290]).symm)) ?_
  refine k_bin (X := .int .u64 ((r9 ++ r14 ++ r19 ++ r24 ++ r29).getD 5 0)) (Y := .int .u64 2251799813685247) rfl rfl rfl rfl ?_
  refine k_indexA (n := 5) (s := 2) (j := 1) rfl Try.underlying58 (by kernel_rfl) s6_e37 rfl (by decide) ?_
  refine k_loadA (n := 2) (xs := ints .u64 (((r9 ++ r14 ++ r19 ++ r24 ++ r29).drop 2).take 2)) 2 rfl (by kernel_rfl) (by kernel_rfl) rfl (hp.get (j := 4) rfl) rfl rfl ((ints_length _ _).trans (part_len (show List.length ((r9 ++ r14 ++ r19 ++ r24 ++ r29) : List Int) = 10 by simp [lr90, lr140, lr190, lr240, lr290]) (by decide))) (fun m v hm => part_get hm) ?_
  refine k_indexA (n := 5) (s := 2) (j := 3) rfl Try.underlying58 (by kernel_rfl) s6_e37 rfl (by decide) ?_
  refine k_fieldAddr (n := 1) rfl (by kernel_rfl) rfl ?_
  refine k_load (j := 7) (v := .int .u64 ((r9 ++ r14 ++ r19 ++ r24 ++ r29).getD 7 0)) rfl (by kernel_rfl) rfl (hp.get (j := 4) rfl) rfl rfl (ints_get (Nat.lt_of_lt_of_eq (m := 10) (by decide) (show List.length ((r9 ++ r14 ++ r19 ++ r24 ++ r29) : List Int) = 10 by simp [lr90, lr140, lr190, lr240, lr290]).symm)) ?_
  refine k_bin (X := .int .u64 ((r9 ++ r14 ++ r19 ++ r24 ++ r29).getD 7 0)) (Y := .int .u64 2251799813685247) rfl rfl rfl rfl ?_
  refine k_indexA (n := 5) (s := 2) (j := 2) rfl Try.underlying58 (by kernel_rfl) s6_e37 rfl (by decide) ?_
  refine k_loadA (n := 2) (xs := ints .u64 (((r9 ++ r14 ++ r19 ++ r24 ++ r29).drop 4).take 2)) 4 rfl (by kernel_rfl) (by kernel_rfl) rfl (hp.get (j := 4) rfl) rfl rfl ((ints_length _ _).trans (part_len (show List.length ((r9 ++ r14 ++ r19 ++ r24 ++ r29) : List Int) = 10 by simp [lr90, lr140, lr190, lr240, lr290]) (by decide))) (fun m v hm => part_get hm) ?_
  refine k_indexA (n := 5) (s := 2) (j := 4) rfl Try.underlying58 (by kernel_rfl) s6_e37 rfl (by decide) ?_
  refine k_fieldAddr (n := 1) rfl (by kernel_rfl) rfl ?_
  refine k_load (j := 9) (v := .int .u64 ((r9 ++ r14 ++ r19 ++ r24 ++ r29).getD 9 0)) rfl (by kernel_rfl) rfl (hp.get (j := 4) rfl) rfl rfl (ints_get (Nat.lt_of_lt_of_eq (m := 10) (by decide) (show List.length ((r9 ++ r14 ++ r19 ++ r24 ++ r29) : List Int) = 10 by simp [lr90, lr140, lr190, lr240, lr290]).symm)) ?_
  refine k_bin (X := .int .u64 ((r9 ++ r14 ++ r19 ++ r24 ++ r29).getD 9 0)) (Y := .int .u64 2251799813685247) rfl rfl rfl rfl ?_
  refine k_indexA (n := 5) (s := 2) (j := 3) rfl Try.underlying58 (by kernel_rfl) s6_e37 rfl (by decide) ?_
  refine k_loadA (n := 2) (xs := ints .u64 (((r9 ++ r14 ++ r19 ++ r24 ++ r29).drop 6).take 2)) 6 rfl (by kernel_rfl) (by kernel_rfl) rfl (hp.get (j := 4) rfl) rfl rfl ((ints_length _ _).trans (part_len (show List.length ((r9 ++ r14 ++ r19 ++ r24 ++ r29) : List Int) = 10 by simp [lr90, lr140, lr190, lr240, lr290]) (by decide))) (fun m v hm => part_get hm) ?_
  obtain ⟨r31, qr31, h⟩ := bd_e h
  refine k_call [.agg (ints .u64 (((r9 ++ r14 ++ r19 ++ r24 ++ r29).drop 8).take 2)).toArray] rfl (by kernel_rfl) (args1 rfl) (field_wide_shifted_ok (((r9 ++ r14 ++ r19 ++ r24 ++ r29).drop 8).take 2) (part_len (show List.length ((r9 ++ r14 ++ r19 ++ r24 ++ r29) : List Int) = 10 by simp [lr90, lr140, lr190, lr240, lr290]) (by decide)) _ (hp.toR (fun _ h => by cases h)) qr31) ?_
  rintro _ w' ⟨_, rfl, rfl, hpc⟩
  refine ⟨_, rfl, .inr (.of_below hpc.chg.to_below), ?_⟩; have hp := hp.below hpc.chg.to_below; clear hpc
  refine k_bin (X := .int .u64 19) (Y := .int .u64 r31) rfl rfl rfl rfl ?_
  refine k_bin (X := .int .u64 (bits .and .u64 ((r9 ++ r14 ++ r19 ++ r24 ++ r29).getD 1 0) 2251799813685247)) (Y := .int .u64 (IntKind.u64.wrap (19 * r31))) rfl rfl rfl rfl ?_
  obtain ⟨r32, qr32, h⟩ := bd_e h
  refine k_call [.agg (ints .u64 (((r9 ++ r14 ++ r19 ++ r24 ++ r29).drop 0).take 2)).toArray] rfl (by kernel_rfl) (args1 rfl) (field_wide_shifted_ok (((r9 ++ r14 ++ r19 ++ r24 ++ r29).drop 0).take 2) (part_len (show List.length ((r9 ++ r14 ++ r19 ++ r24 ++ r29) : List Int) = 10 by simp [lr90, lr140, lr190, lr240, lr290]) (by decide)) _ (hp.toR (fun _ h => by cases h)) qr32) ?_
  rintro _ w' ⟨_, rfl, rfl, hpc⟩
  refine ⟨_, rfl, .inr (.of_below hpc.chg.to_below), ?_⟩; have hp := hp.below hpc.chg.to_below; clear hpc
  refine k_bin (X := .int .u64 (bits .and .u64 ((r9 ++ r14 ++ r19 ++ r24 ++ r29).getD 3 0) 2251799813685247)) (Y := .int .u64 r32) rfl rfl rfl rfl ?_
  obtain ⟨r33, qr33, h⟩ := bd_e h
  refine k_call [.agg (ints .u64 (((r9 ++ r14 ++ r19 ++ r24 ++ r29).drop 2).take 2)).toArray] rfl (by kernel_rfl) (args1 rfl) (field_wide_shifted_ok (((r9 ++ r14 ++ r19 ++ r24 ++ r29).drop 2).take 2) (part_len (show List.length ((r9 ++ r14 ++ r19 ++ r24 ++ r29) : List Int) = 10 by simp [lr90, lr140, lr190, lr240, lr290]) (by decide)) _ (hp.toR (fun _ h => by cases h)) qr33) ?_
  rintro _ w' ⟨_, rfl, rfl, hpc⟩
  refine ⟨_, rfl, .inr (.of_below hpc.chg.to_below), ?_⟩; have hp := hp.below hpc.chg.to_below; clear hpc
  refine k_bin (X := .int .u64 (bits .and .u64 ((r9 ++ r14 ++ r19 ++ r24 ++ r29).getD 5 0) 2251799813685247)) (Y := .int .u64 r33) rfl rfl rfl rfl ?_
  obtain ⟨r34, qr34, h⟩ := bd_e h
  refine k_call [.agg (ints .u64 (((r9 ++ r14 ++ r19 ++ r24 ++ r29).drop 4).take 2)).toArray] rfl (by kernel_rfl) (args1 rfl) (field_wide_shifted_ok (((r9 ++ r14 ++ r19 ++ r24 ++ r29).drop 4).take 2) (part_len (show List.length ((r9 ++ r14 ++ r19 ++ r24 ++ r29) : List Int) = 10 by simp [lr90, lr140, lr190, lr240, lr290]) (by decide)) _ (hp.toR (fun _ h => by cases h)) qr34) ?_
  rintro _ w' ⟨_, rfl, rfl, hpc⟩
  refine ⟨_, rfl, .inr (.of_below hpc.chg.to_below), ?_⟩; have hp := hp.below hpc.chg.to_below; clear hpc
  refine k_bin (X := .int .u64 (bits .and .u64 ((r9 ++ r14 ++ r19 ++ r24 ++ r29).getD 7 0) 2251799813685247)) (Y := .int .u64 r34) rfl rfl rfl rfl ?_
  obtain ⟨r35, qr35, h⟩ := bd_e h
  refine k_call [.agg (ints .u64 (((r9 ++ r14 ++ r19 ++ r24 ++ r29).drop 6).take 2)).toArray] rfl (by kernel_rfl) (args1 rfl) (field_wide_shifted_ok (((r9 ++ r14 ++ r19 ++ r24 ++ r29).drop 6).take 2) (part_len (show List.length ((r9 ++ r14 ++ r19 ++ r24 ++ r29) : List Int) = 10 by simp [lr90, lr140, lr190, lr240, lr290]) (by decide)) _ (hp.toR (fun _ h => by cases h)) qr35) ?_
  rintro _ w' ⟨_, rfl, rfl, hpc⟩
  refine ⟨_, rfl, .inr (.of_below hpc.chg.to_below), ?_⟩; have hp := hp.below hpc.chg.to_below; clear hpc
  refine k_bin (X := .int .u64 (bits .and .u64 ((r9 ++ r14 ++ r19 ++ r24 ++ r29).getD 9 0) 2251799813685247)) (Y := .int .u64 r35) rfl rfl rfl rfl ?_
  refine k_build (v := .agg (ints .u64 [(IntKind.u64.wrap ((bits .and .u64 ((r9 ++ r14 ++ r19 ++ r24 ++ r29).getD 1 0) 2251799813685247) + (IntKind.u64.wrap (19 * r31)))), (IntKind.u64.wrap ((bits .and .u64 ((r9 ++ r14 ++ r19 ++ r24 ++ r29).getD 3 0) 2251799813685247) + r32)), (IntKind.u64.wrap ((bits .and .u64 ((r9 ++ r14 ++ r19 ++ r24 ++ r29).getD 5 0) 2251799813685247) + r33)), (IntKind.u64.wrap ((bits .and .u64 ((r9 ++ r14 ++ r19 ++ r24 ++ r29).getD 7 0) 2251799813685247) + r34)), (IntKind.u64.wrap ((bits .and .u64 ((r9 ++ r14 ++ r19 ++ r24 ++ r29).getD 9 0) 2251799813685247) + r35))]).toArray) rfl (fun _ => by kernel_rfl) ?_
  obtain ⟨r36, qr36, h⟩ := bd_e h
  refine k_call [.agg (ints .u64 [(IntKind.u64.wrap ((bits .and .u64 ((r9 ++ r14 ++ r19 ++ r24 ++ r29).getD 1 0) 2251799813685247) + (IntKind.u64.wrap (19 * r31)))), (IntKind.u64.wrap ((bits .and .u64 ((r9 ++ r14 ++ r19 ++ r24 ++ r29).getD 3 0) 2251799813685247) + r32)), (IntKind.u64.wrap ((bits .and .u64 ((r9 ++ r14 ++ r19 ++ r24 ++ r29).getD 5 0) 2251799813685247) + r33)), (IntKind.u64.wrap ((bits .and .u64 ((r9 ++ r14 ++ r19 ++ r24 ++ r29).getD 7 0) 2251799813685247) + r34)), (IntKind.u64.wrap ((bits .and .u64 ((r9 ++ r14 ++ r19 ++ r24 ++ r29).getD 9 0) 2251799813685247) + r35))]).toArray] rfl (by kernel_rfl) (args1 rfl) (field_Element_carried_ok [(IntKind.u64.wrap ((bits .and .u64 ((r9 ++ r14 ++ r19 ++ r24 ++ r29).getD 1 0) 2251799813685247) + (IntKind.u64.wrap (19 * r31)))), (IntKind.u64.wrap ((bits .and .u64 ((r9 ++ r14 ++ r19 ++ r24 ++ r29).getD 3 0) 2251799813685247) + r32)), (IntKind.u64.wrap ((bits .and .u64 ((r9 ++ r14 ++ r19 ++ r24 ++ r29).getD 5 0) 2251799813685247) + r33)), (IntKind.u64.wrap ((bits .and .u64 ((r9 ++ r14 ++ r19 ++ r24 ++ r29).getD 7 0) 2251799813685247) + r34)), (IntKind.u64.wrap ((bits .and .u64 ((r9 ++ r14 ++ r19 ++ r24 ++ r29).getD 9 0) 2251799813685247) + r35))] (rfl : List.length ([(IntKind.u64.wrap ((bits .and .u64 ((r9 ++ r14 ++ r19 ++ r24 ++ r29).getD 1 0) 2251799813685247) + (IntKind.u64.wrap (19 * r31)))), (IntKind.u64.wrap ((bits .and .u64 ((r9 ++ r14 ++ r19 ++ r24 ++ r29).getD 3 0) 2251799813685247) + r32)), (IntKind.u64.wrap ((bits .and .u64 ((r9 ++ r14 ++ r19 ++ r24 ++ r29).getD 5 0) 2251799813685247) + r33)), (IntKind.u64.wrap ((bits .and .u64 ((r9 ++ r14 ++ r19 ++ r24 ++ r29).getD 7 0) 2251799813685247) + r34)), (IntKind.u64.wrap ((bits .and .u64 ((r9 ++ r14 ++ r19 ++ r24 ++ r29).getD 9 0) 2251799813685247) + r35))] : List Int) = 5) _ (hp.toR (fun _ h => by cases h)) qr36) ?_
  rintro _ w' ⟨_, rfl, rfl, lr360, hpc⟩
  refine ⟨_, rfl, .inr (.of_below hpc.chg.to_below), ?_⟩; have hp := hp.below hpc.chg.to_below; clear hpc
  refine k_storeA (v := .agg (ints .u64 r36).toArray) 2 0 (r := ⟨g3, 0, ints .u64 (List.replicate 5 (0 : Int))⟩) (ints .u64 r36) (ints .u64 r36) rfl (n := 5) (by kernel_rfl) s4_e37 rfl rfl ((ints_length _ _).trans lr360) (ints_one _ _) hp rfl rfl rfl (Nat.le_of_eq ((Nat.zero_add _).trans ((ints_length _ _).trans List.length_replicate).symm)) (setMany_all _ _ (((ints_length _ _).trans lr360).trans ((ints_length _ _).trans List.length_replicate).symm)) (by decide) ?_; intro w hp
  refine k_end ?_; intro e63 qe63
  have s4_e63 : e63 4 = .pointer (some ⟨g3, 0, none⟩) := (congrFun qe63 4).trans s4_e37
  clear qe63
  refine wret rfl ?_
  have hr : r = r36 := (Option.some.inj h).symm
  show RetP _ _ _ _ _
  rw [hr]
  exact ret_i [.agg (ints .u64 r36).toArray] (res_cell s4_e63 (loadVar_agg (by kernel_rfl) (by kernel_rfl) ((ints_length _ _).trans lr360) (hp.get (j := 2) rfl) rfl rfl rfl) res_nil) ⟨rfl, lr360, hp.none⟩
end Go.Proofs.Ytmjjkhnofolacaa
